/-
  ReadVector: both sides' contracts; the law. (Seat ..ab.D, over the merged texts of the claim ReadNumbers.)
-/
import Derived.Test.YtjfoimbeflobkabDoorMLExactReadNumbersc
import Derived.RegionTactic
import Derived.ChangeAlike
namespace Go.Proofs.YtjfoimbeflobkabDoor
open Fl Go.RowKit Go.Proofs.YtjfoimbeflobkabDoorW.PrintWords
set_option linter.unusedVariables false

/-- Block B of three cells, which may be written. -/
def Three (w : World) (B : Nat) (v0 v1 v2 : Value) : Prop :=
  w.cell? ⟨B, 0, none⟩ = some v0 ∧ w.cell? ⟨B, 1, none⟩ = some v1 ∧ w.cell? ⟨B, 2, none⟩ = some v2 ∧ w.frozen? ⟨B, 0, none⟩ = false ∧ w.frozen? ⟨B, 1, none⟩ = false ∧ w.frozen? ⟨B, 2, none⟩ = false ∧ B < w.heap.size

theorem Three.new (w : World) (v0 v1 v2 : Value) (t : TypeId) : Three (w.alloc (.cells #[v0, v1, v2] t)) w.heap.size v0 v1 v2 := by
  refine ⟨by simp [go_sem], by simp [go_sem], by simp [go_sem], by simp [go_sem], by simp [go_sem], by simp [go_sem], by simp⟩

theorem Three.below {w w' : World} {B : Nat} {v0 v1 v2 : Value} (hb : Below w.heap.size w w') (h : Three w B v0 v1 v2) : Three w' B v0 v1 v2 := by
  obtain ⟨h0, h1, h2, z0, z1, z2, hs⟩ := h
  exact ⟨(hb.cell hs).trans h0, (hb.cell hs).trans h1, (hb.cell hs).trans h2, (hb.frozen hs).trans z0, (hb.frozen hs).trans z1, (hb.frozen hs).trans z2, Nat.lt_of_lt_of_le hs hb.size⟩

theorem Three.set {w : World} {B : Nat} {u0 u1 u2 v0 v1 v2 : Value} (h : Three w B u0 u1 u2) : Three (((w.setCell ⟨B, 0, none⟩ v0).setCell ⟨B, 1, none⟩ v1).setCell ⟨B, 2, none⟩ v2) B v0 v1 v2 := by
  obtain ⟨h0, h1, h2, z0, z1, z2, hs⟩ := h
  refine ⟨?_, ?_, ?_, ?_, ?_, ?_, by simpa using hs⟩
  · rw [World.cell?_setCell_other _ _ _ _ (by simp), World.cell?_setCell_other _ _ _ _ (by simp)]; exact World.cell?_setCell_same _ _ _ h0
  · rw [World.cell?_setCell_other _ _ _ _ (by simp)]; refine World.cell?_setCell_same (u := u1) _ _ _ ?_; rw [World.cell?_setCell_other _ _ _ _ (by simp)]; exact h1
  · refine World.cell?_setCell_same (u := u2) _ _ _ ?_; rw [World.cell?_setCell_other _ _ _ _ (by simp), World.cell?_setCell_other _ _ _ _ (by simp)]; exact h2
  · simp [go_sem, z0]
  · simp [go_sem, z1]
  · simp [go_sem, z2]
theorem Three.drew {w : World} {B : Nat} {v0 v1 v2 : Value} (h : Three w B v0 v1 v2) : Three w.drew B v0 v1 v2 := h

/-- The variable of the result, written and then read as the result. -/
theorem three_done {w w1 : World} {u0 u1 u2 v0 v1 v2 : Value} (h : Three w1 w.heap.size u0 u1 u2) (K : Below w.heap.size w w1) : ∃ W2 : World, (((w1.setCell ⟨w.heap.size, 0, none⟩ v0).setCell ⟨w.heap.size, 1, none⟩ v1).setCell ⟨w.heap.size, 2, none⟩ v2).drew = W2 ∧ W2.cell? ⟨w.heap.size, 0, none⟩ = some v0 ∧ W2.cell? ⟨w.heap.size, 1, none⟩ = some v1 ∧ W2.cell? ⟨w.heap.size, 2, none⟩ = some v2 ∧ w.heap.size < W2.heap.size ∧ Below w.heap.size w W2 := by
  obtain ⟨a, b, c, _, _, _, d⟩ := Three.drew (Three.set (v0 := v0) (v1 := v1) (v2 := v2) h)
  exact ⟨_, rfl, a, b, c, d, Below.drew (((K.setCell (Nat.le_refl _) _).setCell (Nat.le_refl _) _).setCell (Nat.le_refl _) _)⟩

theorem three_put {w w1 : World} {u0 u1 u2 v0 v1 v2 : Value} (h : Three w1 w.heap.size u0 u1 u2) (K : Below w.heap.size w w1) : ∃ W2 : World, ((w1.setCell ⟨w.heap.size, 0, none⟩ v0).setCell ⟨w.heap.size, 1, none⟩ v1).setCell ⟨w.heap.size, 2, none⟩ v2 = W2 ∧ W2.cell? ⟨w.heap.size, 0, none⟩ = some v0 ∧ W2.cell? ⟨w.heap.size, 1, none⟩ = some v1 ∧ W2.cell? ⟨w.heap.size, 2, none⟩ = some v2 ∧ Below w.heap.size w W2 := by
  obtain ⟨a, b, c, _, _, _, _⟩ := Three.set (v0 := v0) (v1 := v1) (v2 := v2) h
  exact ⟨_, rfl, a, b, c, ((K.setCell (Nat.le_refl _) _).setCell (Nat.le_refl _) _).setCell (Nat.le_refl _) _⟩

/-- What a text of a vector reads as. -/
def vecF (r : List Nat × Bool) : (Nat × Nat × Nat) × Bool := match r with
  | ([a, b, c], true) => ((a, b, c), true)
  | _ => ((0, 0, 0), false)

theorem vecF_not {l : List Nat} {b : Bool} (h : b = false ∨ ¬ l.length = 3) : vecF (l, b) = ((0, 0, 0), false) := by
  unfold vecF
  split
  · rename_i e
    injection e with e1 e2
    subst e1 e2
    rcases h with h | h
    · cases h
    · exact absurd rfl h
  · rfl

theorem three {l : List Nat} (h : l.length = 3) : ∃ a b c, l = [a, b, c] := by
  match l, h with
  | [a, b, c], _ => exact ⟨a, b, c, rfl⟩

/-- What a reader of vectors leaves. -/
def AnsV (w : World) (r : (Nat × Nat × Nat) × Bool) (e : Ending) (w' : World) : Prop := e = .returned (.tuple #[.agg #[.float .f32 r.1.1, .float .f32 r.1.2.1, .float .f32 r.1.2.2], .bool r.2]) ∧ Below w.heap.size w w'

theorem cells_of {w : World} {base n c : Nat} {A : Option Addr} {x y z : Nat} (h : KF.R 34 w base (fun _ => True) (.slice A n c) [x, y, z]) :
    n = 3 ∧ ∃ g, A = some ⟨g, 0, none⟩ ∧ base ≤ g ∧ w.cell? ⟨g, 0, none⟩ = some (.float .f32 x) ∧ w.cell? ⟨g, 1, none⟩ = some (.float .f32 y) ∧ w.cell? ⟨g, 2, none⟩ = some (.float .f32 z) := by
  have h1 := (Kd.R_reads' h).1
  have ho := Kd.own_of_R h
  obtain rfl : n = 3 := h1
  have hb := Kd.R_base h
  obtain ⟨g, cap, he, hgb, hgl⟩ := ho.form (by simp)
  cases he
  have c0 := (own_at_of (d := (0 : Nat)) ho 0 (by decide) (by simp)).1
  have c1 := (own_at_of (d := (0 : Nat)) ho 1 (by decide) (by simp)).1
  have c2 := (own_at_of (d := (0 : Nat)) ho 2 (by decide) (by simp)).1
  exact ⟨rfl, g, rfl, hgb, c0, c1, c2⟩

set_option maxHeartbeats 1000000 in
theorem spec_l01VRead (s : ByteArray) (hs : s.size ≤ 1048576) (w : World) : Calls Tryd.prog 38 #[.string s] w (AnsV w (vecF (readF s))) := by
  have h := fun w => spec_l01NRead s hs w
  obtain ⟨l, b, hlb⟩ : ∃ l b, readF s = (l, b) := ⟨_, _, rfl⟩
  rw [hlb] at h ⊢
  have H : Hid (∀ w : World, Calls Tryd.prog 35 #[.string s] w fun e w' => ∃ v : Value, e = .returned (.tuple #[v, .bool b]) ∧ KF.R 34 w' w.heap.size (fun _ => True) v l ∧ Below w.heap.size w w') := h
  have HN := Lib.hid (Three.new w (.float .f32 0) (.float .f32 0) (.float .f32 0) 38)
  have HB := Lib.hid (Below.alloc (Below.refl w.heap.size w) (Nat.le_refl _) (.cells #[.float .f32 0, .float .f32 0, .float .f32 0] 38))
  clear h hlb hs
  by_cases hb : b = true
  · by_cases h3 : l.length = 3
    · obtain ⟨x, y, z, rfl⟩ := three h3
      subst hb
      clear h3
      rw [show vecF ([x, y, z], true) = ((x, y, z), true) from rfl]
      go_enter Tryd.func38, Tryd.ntmps38
      go_wp2_with (first | (go_at_call 35; refine (H.out _).mono ?_; rintro e w1 ⟨v, rfl, hR, hb1⟩; obtain ⟨A, c, rfl⟩ := Kd.R_slice hR; have hc := cells_of hR; obtain ⟨_, g, rfl, hge, c0, c1, c2⟩ := hc; have ht := Three.below hb1 HN.out; obtain ⟨d0, d1, d2, z0, z1, z2, hlt⟩ := ht; have hne : w.heap.size ≠ g := (by simp at hge; omega); have B1 := Lib.hid (hex_next HB.out hb1); clear hR hb1 hge) | fail)
      go_region
      obtain ⟨W2, hW2, e0, e1, e2, _, B2⟩ := three_done (w := w) (v0 := .float .f32 x) (v1 := .float .f32 y) (v2 := .float .f32 z) ⟨d0, d1, d2, z0, z1, z2, hlt⟩ B1.out
      rw [hW2]
      clear hW2 c0 c1 c2 d0 d1 d2 z0 z1 z2 hlt
      go_wp2_with fail
      ((try simp only [Exit.inBlock, Exit.then]); refine bodyPost_ret (by simp [results, Tryd.results38, go_sem, e0, e1, e2]; try rfl) rfl ?_)
      exact ⟨rfl, B2⟩
    · rw [vecF_not (.inr h3)]
      subst hb
      have h3' : ¬ (l.length : Int) = 3 := by omega
      have h3b : ((l.length : Int) == 3) = false := by simp; omega
      clear h3
      go_enter Tryd.func38, Tryd.ntmps38
      go_wp2_with (first | (go_at_call 35; refine (H.out _).mono ?_; rintro e w1 ⟨v, rfl, hR, hb1⟩; obtain ⟨A, c, rfl⟩ := Kd.R_slice hR; have ht := Three.below hb1 HN.out; obtain ⟨d0, d1, d2, z0, z1, z2, hlt⟩ := ht; have B1 := Lib.hid (hex_next HB.out hb1); clear hR hb1) | fail)
      obtain ⟨W2, hW2, e0, e1, e2, B2⟩ := three_put (w := w) (v0 := .float .f32 0) (v1 := .float .f32 0) (v2 := .float .f32 0) ⟨d0, d1, d2, z0, z1, z2, hlt⟩ B1.out
      rw [hW2]
      clear hW2 d0 d1 d2 z0 z1 z2 hlt
      ((try simp only [Exit.inBlock, Exit.then]); refine bodyPost_ret (by simp [results, Tryd.results38, go_sem, e0, e1, e2]; try rfl) rfl ?_)
      exact ⟨rfl, B2⟩
  · rw [vecF_not (.inl (Bool.eq_false_iff.2 hb))]
    obtain rfl := Bool.eq_false_iff.2 hb
    clear hb
    go_enter Tryd.func38, Tryd.ntmps38
    go_wp2_with (first | (go_at_call 35; refine (H.out _).mono ?_; rintro e w1 ⟨v, rfl, hR, hb1⟩; obtain ⟨A, c, rfl⟩ := Kd.R_slice hR; have ht := Three.below hb1 HN.out; obtain ⟨d0, d1, d2, z0, z1, z2, hlt⟩ := ht; have B1 := Lib.hid (hex_next HB.out hb1); clear hR hb1) | fail)
    obtain ⟨W2, hW2, e0, e1, e2, B2⟩ := three_put (w := w) (v0 := .float .f32 0) (v1 := .float .f32 0) (v2 := .float .f32 0) ⟨d0, d1, d2, z0, z1, z2, hlt⟩ B1.out
    rw [hW2]
    clear hW2 d0 d1 d2 z0 z1 z2 hlt
    ((try simp only [Exit.inBlock, Exit.then]); refine bodyPost_ret (by simp [results, Tryd.results38, go_sem, e0, e1, e2]; try rfl) rfl ?_)
    exact ⟨rfl, B2⟩
set_option maxHeartbeats 1000000 in
theorem impl_ReadVector (s : ByteArray) (hs : s.size ≤ 1048576) (w : World) (hM : MaxSome w) (hE : Errs w) (hZ : TabZ w) : Calls Tryd.prog 25 #[.string s] w (AnsV w (vecF (readF s))) := by
  have h := fun w => impl_ReadNumbers s hs w
  have h0 : Below w.heap.size w (w.alloc (.cells #[.float .f32 0, .float .f32 0, .float .f32 0] 38)) := Below.alloc (Below.refl w.heap.size w) (Nat.le_refl _) _
  have HM := Lib.hid (hM.below h0)
  have HE := Lib.hid (hE.below h0)
  have HZ := Lib.hid (hZ.below h0)
  clear hM hE hZ h0
  obtain ⟨l, b, hlb⟩ : ∃ l b, readF s = (l, b) := ⟨_, _, rfl⟩
  rw [hlb] at h ⊢
  have H : Hid (∀ w : World, MaxSome w → Errs w → TabZ w → Calls Tryd.prog 21 #[.string s] w fun e w' => ∃ v : Value, e = .returned (.tuple #[v, .bool b]) ∧ KF.R 34 w' w.heap.size (fun _ => True) v l ∧ Below w.heap.size w w') := h
  have HN := Lib.hid (Three.new w (.float .f32 0) (.float .f32 0) (.float .f32 0) 38)
  have HB := Lib.hid (Below.alloc (Below.refl w.heap.size w) (Nat.le_refl _) (.cells #[.float .f32 0, .float .f32 0, .float .f32 0] 38))
  clear h hlb hs
  by_cases hb : b = true
  · by_cases h3 : l.length = 3
    · obtain ⟨x, y, z, rfl⟩ := three h3
      subst hb
      clear h3
      rw [show vecF ([x, y, z], true) = ((x, y, z), true) from rfl]
      go_enter Tryd.func25, Tryd.ntmps25
      go_wp2_with (first | (go_at_call 21; refine (H.out _ HM.out HE.out HZ.out).mono ?_; rintro e w1 ⟨v, rfl, hR, hb1⟩; obtain ⟨A, c, rfl⟩ := Kd.R_slice hR; have hc := cells_of hR; obtain ⟨_, g, rfl, hge, c0, c1, c2⟩ := hc; have ht := Three.below hb1 HN.out; obtain ⟨d0, d1, d2, z0, z1, z2, hlt⟩ := ht; have hne : w.heap.size ≠ g := (by simp at hge; omega); have B1 := Lib.hid (hex_next HB.out hb1); clear hR hb1 hge) | fail)
      go_region
      obtain ⟨W2, hW2, e0, e1, e2, _, B2⟩ := three_done (w := w) (v0 := .float .f32 x) (v1 := .float .f32 y) (v2 := .float .f32 z) ⟨d0, d1, d2, z0, z1, z2, hlt⟩ B1.out
      rw [hW2]
      clear hW2 c0 c1 c2 d0 d1 d2 z0 z1 z2 hlt
      go_wp2_with fail
      ((try simp only [Exit.inBlock, Exit.then]); refine bodyPost_ret (by simp [results, Tryd.results25, go_sem, e0, e1, e2]; try rfl) rfl ?_)
      exact ⟨rfl, B2⟩
    · rw [vecF_not (.inr h3)]
      subst hb
      have h3' : ¬ (l.length : Int) = 3 := by omega
      have h3b : ((l.length : Int) == 3) = false := by simp; omega
      clear h3
      go_enter Tryd.func25, Tryd.ntmps25
      go_wp2_with (first | (go_at_call 21; refine (H.out _ HM.out HE.out HZ.out).mono ?_; rintro e w1 ⟨v, rfl, hR, hb1⟩; obtain ⟨A, c, rfl⟩ := Kd.R_slice hR; have ht := Three.below hb1 HN.out; obtain ⟨d0, d1, d2, z0, z1, z2, hlt⟩ := ht; have B1 := Lib.hid (hex_next HB.out hb1); clear hR hb1) | fail)
      obtain ⟨W2, hW2, e0, e1, e2, B2⟩ := three_put (w := w) (v0 := .float .f32 0) (v1 := .float .f32 0) (v2 := .float .f32 0) ⟨d0, d1, d2, z0, z1, z2, hlt⟩ B1.out
      rw [hW2]
      clear hW2 d0 d1 d2 z0 z1 z2 hlt
      ((try simp only [Exit.inBlock, Exit.then]); refine bodyPost_ret (by simp [results, Tryd.results25, go_sem, e0, e1, e2]; try rfl) rfl ?_)
      exact ⟨rfl, B2⟩
  · rw [vecF_not (.inl (Bool.eq_false_iff.2 hb))]
    obtain rfl := Bool.eq_false_iff.2 hb
    clear hb
    go_enter Tryd.func25, Tryd.ntmps25
    go_wp2_with (first | (go_at_call 21; refine (H.out _ HM.out HE.out HZ.out).mono ?_; rintro e w1 ⟨v, rfl, hR, hb1⟩; obtain ⟨A, c, rfl⟩ := Kd.R_slice hR; have ht := Three.below hb1 HN.out; obtain ⟨d0, d1, d2, z0, z1, z2, hlt⟩ := ht; have B1 := Lib.hid (hex_next HB.out hb1); clear hR hb1) | fail)
    obtain ⟨W2, hW2, e0, e1, e2, B2⟩ := three_put (w := w) (v0 := .float .f32 0) (v1 := .float .f32 0) (v2 := .float .f32 0) ⟨d0, d1, d2, z0, z1, z2, hlt⟩ B1.out
    rw [hW2]
    clear hW2 d0 d1 d2 z0 z1 z2 hlt
    ((try simp only [Exit.inBlock, Exit.then]); refine bodyPost_ret (by simp [results, Tryd.results25, go_sem, e0, e1, e2]; try rfl) rfl ?_)
    exact ⟨rfl, B2⟩
theorem spec_ReadVector (s : ByteArray) (hs : s.size ≤ 1048576) (w : World) : Calls Tryd.prog 24 #[.string s] w (AnsV w (vecF (readF s))) := by
  have H : Hid (∀ w : World, Calls Tryd.prog 38 #[.string s] w (AnsV w (vecF (readF s)))) := fun w => spec_l01VRead s hs w
  obtain ⟨⟨⟨x, y, z⟩, b⟩, hr⟩ : ∃ r, r = vecF (readF s) := ⟨_, rfl⟩
  rw [← hr] at H ⊢
  clear hr hs
  have HN := Lib.hid (Three.new w (.float .f32 0) (.float .f32 0) (.float .f32 0) 38)
  have HB := Lib.hid (Below.alloc (Below.refl w.heap.size w) (Nat.le_refl _) (.cells #[.float .f32 0, .float .f32 0, .float .f32 0] 38))
  go_enter Tryd.func24, Tryd.ntmps24
  go_wp2_with (first | (go_at_call 38; refine (H.out _).mono ?_; rintro e w1 ⟨rfl, hb1⟩; have ht := Three.below hb1 HN.out; obtain ⟨d0, d1, d2, z0, z1, z2, hlt⟩ := ht; have B1 := Lib.hid (hex_next HB.out hb1); clear hb1) | fail)
  obtain ⟨W2, hW2, e0, e1, e2, B2⟩ := three_put (w := w) (v0 := .float .f32 x) (v1 := .float .f32 y) (v2 := .float .f32 z) ⟨d0, d1, d2, z0, z1, z2, hlt⟩ B1.out
  rw [hW2]
  clear hW2 d0 d1 d2 z0 z1 z2 hlt
  ((try simp only [Exit.inBlock, Exit.then]); refine bodyPost_ret (by simp [results, Tryd.results24, go_sem, e0, e1, e2]; try rfl) rfl ?_)
  exact ⟨rfl, B2⟩

theorem vecF_lt (s : ByteArray) : (vecF (readF s)).1.1 < 4294967296 ∧ (vecF (readF s)).1.2.1 < 4294967296 ∧ (vecF (readF s)).1.2.2 < 4294967296 := by
  have h := (readF_small s).2
  obtain ⟨l, b, hlb⟩ : ∃ l b, readF s = (l, b) := ⟨_, _, rfl⟩
  rw [hlb] at h ⊢
  unfold vecF
  split
  · rename_i a b c e
    injection e with e1 e2
    subst e1
    exact ⟨h a (by simp), h b (by simp), h c (by simp)⟩
  · exact ⟨by decide, by decide, by decide⟩

set_option maxHeartbeats 1000000 in
theorem fnExactReadVector_walk (w : World) (s : ByteArray) (ws : s.size ≤ maxLen) (hz : TabZ w) (he : Errs w) (hm : MaxSome w) :
    Calls Tryd.prog 7 #[.string s] w fun e w' => e = .returned (.bool true) ∧ Below w.heap.size w w' := by
  by_cases hl : s.size ≤ 1048576
  · have b1 : ¬ (1048576 : Int) < (s.size : Int) := by omega
    have h1 := fun w => spec_ReadVector s hl w
    have h2 := fun w => impl_ReadVector s hl w
    have hlt := vecF_lt s
    obtain ⟨⟨⟨x, y, z⟩, b⟩, hr⟩ : ∃ r, r = vecF (readF s) := ⟨_, rfl⟩
    rw [← hr] at hlt
    have H1 : Hid (∀ w : World, Calls Tryd.prog 24 #[.string s] w (AnsV w ((x, y, z), b))) := by rw [hr]; exact h1
    have H2 : Hid (∀ w : World, MaxSome w → Errs w → TabZ w → Calls Tryd.prog 25 #[.string s] w (AnsV w ((x, y, z), b))) := by rw [hr]; exact h2
    have HT := Lib.hid hz
    have HE := Lib.hid he
    have HM := Lib.hid hm
    obtain ⟨lx, ly, lz⟩ := hlt
    have FX : Hid (FR .f32 x (val .f32 x)) := Lib.hid ⟨lx, rfl⟩
    have FY : Hid (FR .f32 y (val .f32 y)) := Lib.hid ⟨ly, rfl⟩
    have FZ : Hid (FR .f32 z (val .f32 z)) := Lib.hid ⟨lz, rfl⟩
    clear h1 h2 hr hz he ws hm lx ly lz
    go_enter Tryd.func7, Tryd.ntmps7
    go_wp2_with (first
      | (go_at_call 24; refine (H1.out _).mono ?_; rintro e w1 ⟨rfl, hb⟩; have hn := Three.new w1 (.float .f32 x) (.float .f32 y) (.float .f32 z) 38; have N1 := Lib.hid hn; have K1 := Lib.hid (Below.alloc hb hb.size (.cells #[.float .f32 x, .float .f32 y, .float .f32 z] 38)); clear hn hb)
      | (go_at_call 25; refine (H2.out _ (HM.out.below K1.out) (HE.out.below K1.out) (HT.out.below K1.out)).mono ?_; rintro e w2 ⟨rfl, hb⟩; have ht := Three.below hb N1.out; obtain ⟨d0, d1, d2, _, _, _, hlt⟩ := ht; have K2 := Lib.hid (hex_next K1.out hb); clear hb)
      | (go_at_call 26; refine (laws_eqVector _ _ _ _ _ _ _ _ _ FX.out FY.out FZ.out FX.out FY.out FZ.out _).mono ?_; rintro e w3 ⟨rfl, hb⟩; have K3 := Lib.hid hb; clear hb)
      | fail)
    go_ret
    exact ⟨rfl, hex_next (Below.alloc K2.out K2.out.size _) K3.out⟩
  · have b1 : (1048576 : Int) < (s.size : Int) := by omega
    go_enter Tryd.func7, Tryd.ntmps7
    go_wp2_with fail
    go_ret
    exact ⟨rfl, Below.refl _ _⟩
end Go.Proofs.YtjfoimbeflobkabDoor
