/-
  Contracts: the text of a vector, both sides.
-/
import Derived.Test.YtjfoimbeflobkabDoorTnum
import Derived.Test.YtjfoimbeflobkabDoorC1
namespace Go.Proofs.YtjfoimbeflobkabDoor
open Fl Go.RowKit Go.Proofs.YtjfoimbeflobkabDoorW.PrintWords
set_option linter.unusedVariables false

theorem textF3 (x y z : Nat) : textF [x, y, z] = hx x ++ ⟨#[44]⟩ ++ hx y ++ ⟨#[44]⟩ ++ hx z := by
  unfold textF joinS
  rw [if_neg (by simp)]
  apply ByteArray.ext
  apply Array.toList_inj.1
  simp [Lib.join, ByteArray.data_append]

theorem floats3 (w : World) (g x y z : Nat) (hg : g = w.heap.size) (h0 : x < 4294967296) (h1 : y < 4294967296) (h2 : z < 4294967296) (t : TypeId) :
    FloatsAt (w.alloc (.cells #[.float .f32 x, .float .f32 y, .float .f32 z] t)) (w.alloc (.cells #[.float .f32 x, .float .f32 y, .float .f32 z] t)).heap.size (some ⟨g, 0, none⟩) [x, y, z] := by
  subst hg
  have hnew := heap_alloc_new w (Obj.cells #[.float .f32 x, .float .f32 y, .float .f32 z] t)
  intro i hi
  have hi3 : i < 3 := hi
  refine ⟨w.heap.size, 0, rfl, by simp, ?_, ?_⟩
  · unfold World.cell?
    rw [hnew]
    rcases i with _ | _ | _ | i
    · rfl
    · rfl
    · rfl
    · omega
  · rcases i with _ | _ | _ | i
    · exact h0
    · exact h1
    · exact h2
    · omega

theorem spec_l01VText (x y z : Nat) (h0 : x < 4294967296) (h1 : y < 4294967296) (h2 : z < 4294967296) (w : World) :
    Calls Tryd.prog 34 #[.agg #[.float .f32 x, .float .f32 y, .float .f32 z]] w fun e w' => e = .returned (.string (textF [x, y, z])) ∧ Below w.heap.size w w' := by
  have HC : Hid (∀ (A : Option Addr) (cap : Nat) (w : World), FloatsAt w w.heap.size A [x, y, z] → Calls Tryd.prog 30 #[.slice A 3 cap] w fun e w' => e = .returned (.string (textF [x, y, z])) ∧ Below w.heap.size w w') := fun A cap w hA => spec_l01NText A cap [x, y, z] 3 rfl (by decide) w hA
  go_enter Tryd.func34, Tryd.ntmps34
  go_wp2_with (first | (go_at_call 30; refine (HC.out _ _ _ (floats3 _ _ x y z (by simp) h0 h1 h2 _)).mono ?_; rintro e w1 ⟨rfl, hb1⟩) | fail)
  go_ret
  refine ⟨rfl, ?_⟩
  exact (Below.alloc (Below.alloc (Below.refl _ _) (Nat.le_refl _) _) (by simp) _).trans (hb1.mono (by simp; omega))

theorem spec_VectorText (x y z : Nat) (h0 : x < 4294967296) (h1 : y < 4294967296) (h2 : z < 4294967296) (w : World) :
    Calls Tryd.prog 17 #[.agg #[.float .f32 x, .float .f32 y, .float .f32 z]] w fun e w' => e = .returned (.string (textF [x, y, z])) ∧ Below w.heap.size w w' := by
  have HC := Lib.hid (spec_l01VText x y z h0 h1 h2)
  go_enter Tryd.func17, Tryd.ntmps17
  go_wp2_with (first | (go_at_call 34; refine (HC.out _).mono ?_; rintro e w1 ⟨rfl, hb1⟩) | fail)
  go_ret
  refine ⟨rfl, ?_⟩
  exact (Below.alloc (Below.refl _ _) (Nat.le_refl _) _).trans (hb1.mono (by simp))

theorem keepv {w0 w1 w2 : World} {a b c : Nat} (hb : Below w1.heap.size w1 w2) (h : w1.cell? ⟨w0.heap.size, 0, none⟩ = some (.float .f32 a) ∧ w1.cell? ⟨w0.heap.size, 1, none⟩ = some (.float .f32 b) ∧ w1.cell? ⟨w0.heap.size, 2, none⟩ = some (.float .f32 c) ∧ w0.heap.size + 1 ≤ w1.heap.size ∧ Below w0.heap.size w0 w1) : w2.cell? ⟨w0.heap.size, 0, none⟩ = some (.float .f32 a) ∧ w2.cell? ⟨w0.heap.size, 1, none⟩ = some (.float .f32 b) ∧ w2.cell? ⟨w0.heap.size, 2, none⟩ = some (.float .f32 c) ∧ w0.heap.size + 1 ≤ w2.heap.size ∧ Below w0.heap.size w0 w2 := by
  obtain ⟨h0, h1, h2, h6, h7⟩ := h
  refine ⟨(hb.cell ?_).trans h0, (hb.cell ?_).trans h1, (hb.cell ?_).trans h2, ?_, h7.trans (hb.mono ?_)⟩
  all_goals first | (show w0.heap.size < _; omega) | (have := hb.size; omega) | omega

theorem keepvd {w0 w1 : World} {a b c : Nat} (h : w1.cell? ⟨w0.heap.size, 0, none⟩ = some (.float .f32 a) ∧ w1.cell? ⟨w0.heap.size, 1, none⟩ = some (.float .f32 b) ∧ w1.cell? ⟨w0.heap.size, 2, none⟩ = some (.float .f32 c) ∧ w0.heap.size + 1 ≤ w1.heap.size ∧ Below w0.heap.size w0 w1) : w1.drew.cell? ⟨w0.heap.size, 0, none⟩ = some (.float .f32 a) ∧ w1.drew.cell? ⟨w0.heap.size, 1, none⟩ = some (.float .f32 b) ∧ w1.drew.cell? ⟨w0.heap.size, 2, none⟩ = some (.float .f32 c) ∧ w0.heap.size + 1 ≤ w1.drew.heap.size ∧ Below w0.heap.size w0 w1.drew := by
  obtain ⟨h0, h1, h2, h6, h7⟩ := h
  exact ⟨h0, h1, h2, h6, Below.drew h7⟩

set_option maxHeartbeats 8000000 in
set_option maxRecDepth 20000 in
theorem impl_VectorText (x y z : Nat) (h0 : x < 4294967296) (h1 : y < 4294967296) (h2 : z < 4294967296) (w : World) (hz : TabZ w) :
    Calls Tryd.prog 19 #[.agg #[.float .f32 x, .float .f32 y, .float .f32 z]] w fun e w' => e = .returned (.string (textF [x, y, z])) ∧ Below w.heap.size w w' := by
  rw [textF3]
  obtain ⟨p, hp⟩ : ∃ p, p = hx x := ⟨_, rfl⟩
  obtain ⟨q, hq⟩ : ∃ p, p = hx y := ⟨_, rfl⟩
  obtain ⟨r, hr⟩ : ∃ p, p = hx z := ⟨_, rfl⟩
  have s1 : p.size = 8 := by rw [hp]; exact hx_size _
  have s2 : q.size = 8 := by rw [hq]; exact hx_size _
  have s3 : r.size = 8 := by rw [hr]; exact hx_size _
  have HX : Hid (∀ w' : World, (w'.cell? ⟨w.heap.size, 0, none⟩ = some (.float .f32 x) ∧ w'.cell? ⟨w.heap.size, 1, none⟩ = some (.float .f32 y) ∧ w'.cell? ⟨w.heap.size, 2, none⟩ = some (.float .f32 z) ∧ w.heap.size + 1 ≤ w'.heap.size ∧ Below w.heap.size w w') → Calls Tryd.prog 31 #[.float .f32 x] w' fun e w2 => e = .returned (.string p) ∧ Below w'.heap.size w' w2) := by rw [hp]; exact fun w' hb => impl_hexOf x h0 w' (hz.below hb.2.2.2.2)
  have HY : Hid (∀ w' : World, (w'.cell? ⟨w.heap.size, 0, none⟩ = some (.float .f32 x) ∧ w'.cell? ⟨w.heap.size, 1, none⟩ = some (.float .f32 y) ∧ w'.cell? ⟨w.heap.size, 2, none⟩ = some (.float .f32 z) ∧ w.heap.size + 1 ≤ w'.heap.size ∧ Below w.heap.size w w') → Calls Tryd.prog 31 #[.float .f32 y] w' fun e w2 => e = .returned (.string q) ∧ Below w'.heap.size w' w2) := by rw [hq]; exact fun w' hb => impl_hexOf y h1 w' (hz.below hb.2.2.2.2)
  have HZ : Hid (∀ w' : World, (w'.cell? ⟨w.heap.size, 0, none⟩ = some (.float .f32 x) ∧ w'.cell? ⟨w.heap.size, 1, none⟩ = some (.float .f32 y) ∧ w'.cell? ⟨w.heap.size, 2, none⟩ = some (.float .f32 z) ∧ w.heap.size + 1 ≤ w'.heap.size ∧ Below w.heap.size w w') → Calls Tryd.prog 31 #[.float .f32 z] w' fun e w2 => e = .returned (.string r) ∧ Below w'.heap.size w' w2) := by rw [hr]; exact fun w' hb => impl_hexOf z h2 w' (hz.below hb.2.2.2.2)
  rw [← hp, ← hq, ← hr]
  clear hp hq hr hz h0 h1 h2
  go_enter Tryd.func19, Tryd.ntmps19
  go_wp2_with fail
  go_region_held3 (fun w' => w'.cell? ⟨w.heap.size, 0, none⟩ = some (.float .f32 x) ∧ w'.cell? ⟨w.heap.size, 1, none⟩ = some (.float .f32 y) ∧ w'.cell? ⟨w.heap.size, 2, none⟩ = some (.float .f32 z) ∧ w.heap.size + 1 ≤ w'.heap.size ∧ Below w.heap.size w w') (first | (refine ⟨by go_keep, by go_keep, by go_keep, by simp, ?_⟩; (repeat (first | exact Below.refl _ _ | assumption | (refine Below.drewN ?_ _) | (refine Below.setCell ?_ (by first | (simp; done) | (simp; omega)) _) | (refine Below.drew ?_) | (refine Below.alloc ?_ (by first | (simp; done) | (simp; omega)) _))); done) | with_reducible exact keepvd (by with_reducible assumption) | with_reducible exact keepv (by with_reducible assumption) (by with_reducible assumption))
    (first | (go_at_call 31; first | (with_reducible refine Calls.mono (HX.out _ (by with_reducible assumption)) ?_; rintro e w' ⟨rfl, hb⟩) | (with_reducible refine Calls.mono (HY.out _ (by with_reducible assumption)) ?_; rintro e w' ⟨rfl, hb⟩) | (with_reducible refine Calls.mono (HZ.out _ (by with_reducible assumption)) ?_; rintro e w' ⟨rfl, hb⟩)))
  rename_i hfin
  go_wp2_with fail
  go_ret
  exact ⟨rfl, hfin.2.2.2.2⟩

theorem fnExactVectorText_walk (w : World) (x y z : Nat) (h0 : x < 4294967296) (h1 : y < 4294967296) (h2 : z < 4294967296) (hz : TabZ w) :
    Calls Tryd.prog 5 #[.agg #[.float .f32 x, .float .f32 y, .float .f32 z]] w fun e w' => e = .returned (.bool true) ∧ Below w.heap.size w w' := by
  have h1' := spec_VectorText x y z h0 h1 h2
  have h2' := impl_VectorText x y z h0 h1 h2
  obtain ⟨s, hs⟩ : ∃ s, s = textF [x, y, z] := ⟨_, rfl⟩
  rw [← hs] at h1' h2'
  have H1 := Lib.hid h1'
  have H2 := Lib.hid h2'
  have HZ := Lib.hid hz
  clear h1' h2' hs hz
  have hs0 : (w.alloc (Obj.cells #[.float .f32 x, .float .f32 y, .float .f32 z] 36)).cell? ⟨w.heap.size, 0, none⟩ = some (.float .f32 x) ∧ (w.alloc (Obj.cells #[.float .f32 x, .float .f32 y, .float .f32 z] 36)).cell? ⟨w.heap.size, 1, none⟩ = some (.float .f32 y) ∧ (w.alloc (Obj.cells #[.float .f32 x, .float .f32 y, .float .f32 z] 36)).cell? ⟨w.heap.size, 2, none⟩ = some (.float .f32 z) ∧ w.heap.size + 1 ≤ (w.alloc (Obj.cells #[.float .f32 x, .float .f32 y, .float .f32 z] 36)).heap.size ∧ Below w.heap.size w (w.alloc (Obj.cells #[.float .f32 x, .float .f32 y, .float .f32 z] 36)) := by
    have hnew := heap_alloc_new w (Obj.cells #[.float .f32 x, .float .f32 y, .float .f32 z] 36)
    refine ⟨by unfold World.cell?; rw [hnew]; rfl, by unfold World.cell?; rw [hnew]; rfl, by unfold World.cell?; rw [hnew]; rfl, by simp, Below.alloc (Below.refl _ _) (Nat.le_refl _) _⟩
  have HS0 := Lib.hid hs0
  clear hs0
  go_enter Tryd.func5, Tryd.ntmps5
  go_wp2_with (first
    | (go_at_call 18; first
        | (refine (laws_toVector x y z _).mono ?_; rintro e w3 ⟨rfl, hb3⟩; have S3 := Lib.hid (keepv hb3 S2.out))
        | (refine (laws_toVector x y z _).mono ?_; rintro e w1 ⟨rfl, hb1⟩; have S1 := Lib.hid (keepv hb1 HS0.out)))
    | (go_at_call 17; refine (H1.out _).mono ?_; rintro e w2 ⟨rfl, hb2⟩; have S2 := Lib.hid (keepv hb2 S1.out); have c0 := S2.out.1; have c1 := S2.out.2.1; have c2 := S2.out.2.2.1)
    | (go_at_call 19; refine (H2.out _ (HZ.out.below S3.out.2.2.2.2)).mono ?_; rintro e w4 ⟨rfl, hb4⟩; have S4 := Lib.hid (keepv hb4 S3.out))
    | fail)
  go_ret
  exact ⟨rfl, S4.out.2.2.2.2⟩

end Go.Proofs.YtjfoimbeflobkabDoor
