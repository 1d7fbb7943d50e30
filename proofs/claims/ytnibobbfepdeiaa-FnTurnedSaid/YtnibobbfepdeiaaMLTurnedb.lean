/-
  The proof's texts, one behind the other: XM1 XMmark XMrows XM2 XMlaw XMref XMcopy XMval XMheld XMans XMjoin0 XMmove0 XUsrc XUmov0 XOps XHalf XUrnd XC5 XB1 XD2 XUflt XUroot XUlong XUcross XUat XM8 XUnorm.
-/
import Derived.Test.YtnibobbfepdeiaaFw
import Derived.Test.YtnibobbfepdeiaaPMeshx0
import Derived.Test.YtnibobbfepdeiaaPMeshx13
import Derived.Test.YtnibobbfepdeiaaPMeshx24
import Derived.Test.YtnibobbfepdeiaaPMeshx35
import Derived.Lib.Hide
import Derived.OwnWalk
import Derived.Test.YtnibobbfepdeiaaPMeshx36
import Derived.Test.YtnibobbfepdeiaaPMeshx22
import Derived.Deep.RegionHeld3
import Derived.Test.YtnibobbfepdeiaaPMeshx41
namespace Go.Proofs.Ytnibobbfepdeiaa.Msh
open Fl Go.RowKit Go.Proofs.YtnibobbfepdeiaaW.PrintWords Go.Proofs.Ytnibobbfepdeiaa.PMesh
set_option linter.unusedVariables false
set_option linter.unusedSimpArgs false

theorem wrap_fit {x : Int} (h0 : -9223372036854775808 ≤ x) (h1 : x ≤ 9223372036854775807) : wrap64 x = x := by unfold wrap64; omega

theorem rdI (l : List Int) (i : Nat) (h : i < l.length) : rd l (i : Int) = l[i] := by
  unfold rd
  rw [Int.toNat_natCast, List.getD_eq_getElem?_getD, List.getElem?_eq_getElem h]; rfl
theorem rdL (l : List (List Int)) (i : Nat) (h : i < l.length) : rd_L3 l (i : Int) = l[i] := by
  unfold rd_L3
  rw [Int.toNat_natCast, List.getD_eq_getElem?_getD, List.getElem?_eq_getElem h]; rfl
theorem up (i : Nat) (h : i ≤ 9223372036854775806) : wrap64 ((i : Int) + 1) = ((i + 1 : Nat) : Int) := by rw [wrap_fit (by omega) (by omega)]; omega

/-! equal meshes -/
/-- A vector of floats below 2^32. -/
def okV (x : S59) : Prop := x.f0 < 4294967296 ∧ x.f1 < 4294967296 ∧ x.f2 < 4294967296
/-- Vectors with the same values. -/
def simV (x y : S59) : Prop := simF x.f0 y.f0 = true ∧ simF x.f1 y.f1 = true ∧ simF x.f2 y.f2 = true
def simP (a b : List S59) : Prop := a.length = b.length ∧ ∀ (i : Nat) (ha : i < a.length) (hb : i < b.length), simV a[i] b[i]
theorem eqI_loop (l : List Int) (hl : l.length ≤ 1048576) (d : Nat) : ∀ (k i : Nat), i ≤ l.length → l.length - i = d → d < k → laws_eqInt64S.l0 k l l (i : Int) = some true := by
  induction d with
  | zero =>
    intro k i hi hd hk
    obtain ⟨k, rfl⟩ : ∃ j, k = j + 1 := ⟨k - 1, by omega⟩
    simp only [laws_eqInt64S.l0]
    rw [if_neg (by omega)]
  | succ d ih =>
    intro k i hi hd hk
    obtain ⟨k, rfl⟩ : ∃ j, k = j + 1 := ⟨k - 1, by omega⟩
    simp only [laws_eqInt64S.l0]
    rw [if_pos (by omega), if_pos (by omega), if_pos (by omega), if_pos trivial, up i (by omega)]
    exact ih k (i + 1) (by omega) (by omega) (by omega)

theorem eqI_f (l : List Int) (hl : l.length ≤ 1048576) (k : Nat) (hk : 1048577 < k) : laws_eqInt64S.f k l l = some true := by
  unfold laws_eqInt64S.f
  rw [if_pos rfl]
  exact eqI_loop l hl l.length k 0 (by omega) (by omega) (by omega)

/-! valid meshes -/
def inB (n : Nat) (p : Int) : Bool := decide (0 ≤ p ∧ p < (n : Int))
/-- A triangle of n places. -/
def triB (n : Nat) (t : List Int) : Bool := match t with
  | [a, b, c] => decide (a ≠ b) && decide (b ≠ c) && decide (a ≠ c) && inB n a && inB n b && inB n c
  | _ => false
def validB (n : Nat) (T : List (List Int)) : Bool := decide (n ≤ 64) && decide (T.length ≤ 128) && T.all (triB n)

theorem in_f (n : Nat) (hn : n ≤ 64) (p : Int) : spec_l00In.f p 0 (wrap64 ((n : Int) - 1)) = some (inB n p) := by
  unfold spec_l00In.f inB
  rw [wrap_fit (by omega) (by omega)]
  by_cases h : p ≥ 0
  · rw [if_pos h]; congr 1; rw [decide_eq_decide]; omega
  · rw [if_neg h]; congr 1; symm; rw [decide_eq_false_iff_not]; omega
theorem within_f (n : Nat) (hn : n ≤ 64) (p : Int) : impl_within.f p 0 (wrap64 ((n : Int) - 1)) = some (inB n p) := in_f n hn p

theorem tri3 {t : List Int} (h : t.length = 3) : ∃ a b c, t = [a, b, c] := by
  match t, h with
  | [a, b, c], _ => exact ⟨a, b, c, rfl⟩
theorem triB_len {n : Nat} {t : List Int} (h : triB n t = true) : t.length = 3 := by
  unfold triB at h
  split at h
  · rfl
  · cases h
theorem triB_not {n : Nat} {t : List Int} (h : ¬ t.length = 3) : triB n t = false := by
  cases e : triB n t
  · rfl
  · exact absurd (triB_len e) h

theorem rd3_0 (a b c : Int) : rd [a, b, c] 0 = a := rfl
theorem rd3_1 (a b c : Int) : rd [a, b, c] 1 = b := rfl
theorem rd3_2 (a b c : Int) : rd [a, b, c] 2 = c := rfl

theorem triB_rd (n : Nat) (t : List Int) (h : t.length = 3) : triB n t = (decide (rd t 0 ≠ rd t 1) && decide (rd t 1 ≠ rd t 2) && decide (rd t 0 ≠ rd t 2) && t.all (inB n)) := by
  obtain ⟨a, b, c, rfl⟩ := tri3 h
  rw [rd3_0, rd3_1, rd3_2]
  simp only [triB, List.all_cons, List.all_nil, Bool.and_true, Bool.and_assoc]

theorem vm_inner (T : List (List Int)) (n : Nat) (hn : n ≤ 64) (i : Nat) (t : List Int) (ht : t.length = 3) (d : Nat) : ∀ (k j : Nat), j ≤ 3 → 3 - j = d → d < k →
    ∃ k', k' + d + 1 = k ∧ impl_ValidMesh.l1 k (n : Int) T (T.length : Int) (i : Int) t (t.length : Int) (j : Int) = if (t.drop j).all (inB n) = true then impl_ValidMesh.l0 k' (n : Int) T (T.length : Int) (wrap64 ((i : Int) + 1)) else some false := by
  induction d with
  | zero =>
    intro k j hj hd hk
    obtain ⟨k, rfl⟩ : ∃ j, k = j + 1 := ⟨k - 1, by omega⟩
    refine ⟨k, by omega, ?_⟩
    simp only [impl_ValidMesh.l1]
    rw [if_neg (by omega), List.drop_of_length_le (by omega)]
    rfl
  | succ d ih =>
    intro k j hj hd hk
    obtain ⟨k, rfl⟩ : ∃ j, k = j + 1 := ⟨k - 1, by omega⟩
    have hjl : j < t.length := by omega
    obtain ⟨k', hk', h⟩ := ih k (j + 1) (by omega) (by omega) (by omega)
    refine ⟨k', by omega, ?_⟩
    have e : t.drop j = t[j] :: t.drop (j + 1) := List.drop_eq_getElem_cons hjl
    simp only [impl_ValidMesh.l1]
    rw [if_pos (by omega), if_pos (by omega), if_pos (by omega), rdI t j hjl, within_f n hn, e, List.all_cons]
    simp only [Option.bind_some]
    by_cases hb : inB n t[j] = true
    · rw [if_pos hb, up j (by omega), h, hb, Bool.true_and]
    · rw [if_neg hb, if_neg (by simp [hb])]

theorem vm_loop (n : Nat) (hn : n ≤ 64) (T : List (List Int)) (hT : T.length ≤ 128) (d : Nat) : ∀ (k i : Nat), i ≤ T.length → T.length - i = d → 10 * d + 5 < k → impl_ValidMesh.l0 k (n : Int) T (T.length : Int) (i : Int) = some ((T.drop i).all (triB n)) := by
  induction d with
  | zero =>
    intro k i hi hd hk
    obtain ⟨k, rfl⟩ : ∃ j, k = j + 1 := ⟨k - 1, by omega⟩
    simp only [impl_ValidMesh.l0]
    rw [if_neg (by omega), List.drop_of_length_le (by omega)]
    rfl
  | succ d ih =>
    intro k i hi hd hk
    obtain ⟨k, rfl⟩ : ∃ j, k = j + 2 := ⟨k - 2, by omega⟩
    have hil : i < T.length := by omega
    have e : T.drop i = T[i] :: T.drop (i + 1) := List.drop_eq_getElem_cons hil
    simp only [impl_ValidMesh.l0]
    rw [if_pos (by omega), if_pos (by omega), if_pos (by omega), rdL T i hil, e, List.all_cons]
    by_cases h3 : T[i].length = 3
    · rw [if_pos (by omega), if_pos (by omega), if_pos (by omega)]
      obtain ⟨k', hk', h1⟩ := vm_inner T n hn i T[i] h3 3 k 0 (by omega) (by omega) (by omega)
      have h0 := ih k' (i + 1) (by omega) (by omega) (by omega)
      rw [up i (by omega), h0, List.drop_zero] at h1
      rw [triB_rd n _ h3]
      generalize T[i] = t at *
      have h1' : impl_ValidMesh.l1 k (n : Int) T (T.length : Int) (i : Int) t (t.length : Int) 0 = if t.all (inB n) = true then some ((T.drop (i + 1)).all (triB n)) else some false := h1
      by_cases e1 : rd t 0 = rd t 1
      · rw [if_pos e1]
        simp [impl_ValidMesh.j2, e1]
      · rw [if_neg e1, if_pos (by omega)]
        by_cases e2 : rd t 1 = rd t 2
        · rw [if_pos e2]
          simp [impl_ValidMesh.j2, e2]
        · rw [if_neg e2]
          simp only [impl_ValidMesh.j2]
          by_cases e3 : rd t 0 = rd t 2
          · rw [if_pos (by simp [e3])]
            simp [e3]
          · rw [if_neg (by simp [e3]), h1']
            cases t.all (inB n) <;> simp [e1, e2, e3]
    · rw [if_neg (by omega)]
      simp only [impl_ValidMesh.j2]
      rw [if_pos trivial, triB_not h3]; rfl

theorem valid_f (Q : List S59) (T : List (List Int)) (k : Nat) (hk : 2000 < k) : impl_ValidMesh.f k Q T = some (validB Q.length T) := by
  obtain ⟨k, rfl⟩ : ∃ j, k = j + 1 := ⟨k - 1, by omega⟩
  unfold impl_ValidMesh.f validB
  by_cases h1 : Q.length ≤ 64
  · rw [if_neg (by omega)]
    simp only [impl_ValidMesh.j0]
    by_cases h2 : T.length ≤ 128
    · rw [if_neg (by simp; omega)]
      have := vm_loop Q.length h1 T h2 T.length k 0 (by omega) (by omega) (by omega)
      rw [show ((0 : Nat) : Int) = 0 from rfl] at this
      rw [this]
      simp [h1, h2]
    · rw [if_pos (by simp; omega)]
      simp [h2]
  · rw [if_pos (by omega)]
    simp only [impl_ValidMesh.j0]
    rw [if_pos trivial]
    simp [h1]
end Go.Proofs.Ytnibobbfepdeiaa.Msh
namespace Go.Proofs.Ytnibobbfepdeiaa
open Go.RowKit Go.Proofs.YtnibobbfepdeiaaW.PrintWords Go.Proofs.Ytnibobbfepdeiaa.PMesh Msh
set_option linter.unusedVariables false

/-- a, a + 1, .. -/
def marksA (a : Int) (n : Nat) : List Int := (List.range n).map fun t : Nat => a + (t : Int)
/-- The first i marked. -/
def partA (a : Int) (l : List Int) (i : Nat) : List Int := marksA a i ++ l.drop i
/-- Blocks from a up to b. -/
def In (a b : Nat) (k : Nat) : Prop := a ≤ k ∧ k < b

/-- What was made from base on lies from base up to the world's size. -/
theorem R_in {α : Type} {d : Kd α} {e base : Nat} {w : World} {v : Value} {xs : List α} {ok : Nat → Prop} (h : d.R e w base ok v xs) : d.R e w base (In base w.heap.size) v xs := Kd.R_mono (Kd.R_bound h) (fun k hk => ⟨hk.2.1, hk.2.2.1⟩)
theorem S_in {α : Type} {d : Kd α} {e base : Nat} {w : World} {v : Value} {xs : List α} {ok : Nat → Prop} (h : Kd.S d e w base ok v xs) : Kd.S d e w base (In base w.heap.size) v xs := Kd.S_mono (Kd.S_bound h) (fun k hk => ⟨hk.2.1, hk.2.2.1⟩)

theorem In_off {a b c d : Nat} (h : b ≤ c ∨ d ≤ a) : ∀ k, In a b k → ¬ In c d k := fun k h1 h2 => by unfold In at h1 h2; omega

end Go.Proofs.Ytnibobbfepdeiaa
namespace Go.Proofs.Ytnibobbfepdeiaa
open Go.RowKit Go.Proofs.YtnibobbfepdeiaaW.PrintWords Go.Proofs.Ytnibobbfepdeiaa.PMesh Msh
set_option linter.unusedVariables false

end Go.Proofs.Ytnibobbfepdeiaa
namespace Go.Proofs.Ytnibobbfepdeiaa.Msh
open Fl Go.RowKit Go.Proofs.YtnibobbfepdeiaaW.PrintWords Go.Proofs.Ytnibobbfepdeiaa.PMesh
set_option linter.unusedVariables false

end Go.Proofs.Ytnibobbfepdeiaa.Msh
namespace Go.Proofs.Ytnibobbfepdeiaa
open Go.RowKit Go.Proofs.YtnibobbfepdeiaaW.PrintWords Go.Proofs.Ytnibobbfepdeiaa.PMesh Msh

end Go.Proofs.Ytnibobbfepdeiaa
namespace Go.Proofs.Ytnibobbfepdeiaa
open Go.RowKit Go.Proofs.YtnibobbfepdeiaaW.PrintWords Go.Proofs.Ytnibobbfepdeiaa.PMesh Msh
set_option linter.unusedVariables false

/-- A mesh of the call's own, its blocks from a up to b. -/
def OwnM (w : World) (a b : Nat) (vP vT : Value) (P : List S59) (T : List (List Int)) : Prop :=
  Kd.R k59 59 w a (In a b) vP P ∧ Kd.S (Kd.slice 2 (Kd.int .i64)) 34 w a (In a b) vT T
section
variable {w w' w0 : World} {a b c d b0 : Nat} {v vP vT : Value} {P : List S59} {T : List (List Int)} {l : List Int}
theorem OwnM.below (h : OwnM w a b vP vT P T) (hb : Below w.heap.size w w') : OwnM w' a b vP vT P T := ⟨Kd.R_below h.1 hb, Kd.S_below h.2 hb⟩
theorem OwnM.drawn (h : OwnM w a b vP vT P T) (hd : Drawn0 w w') : OwnM w' a b vP vT P T := h.below hd.below
theorem OwnM.kept (h : OwnM w a b vP vT P T) (hk : Kept w w' (In c d)) (ho : b ≤ c ∨ d ≤ a) : OwnM w' a b vP vT P T := ⟨Kd.R_kept h.1 hk (In_off ho), Kd.S_kept h.2 hk (In_off ho)⟩
theorem OwnM.C {A B : Option Addr} {n m e f : Nat} (h : OwnM w a b (.slice A n e) (.slice B m f) P T) : Kd.C k59 w A P.length P ∧ P.length ≤ e ∧ Kd.C (Kd.slice 2 (Kd.int .i64)) w B T.length T ∧ T.length ≤ f := by
  obtain ⟨h1, h2, h3⟩ := Kd.R_reads' h.1
  obtain ⟨h4, h5, h6⟩ := Kd.S_reads' h.2
  exact ⟨h3, by omega, h6, by omega⟩
theorem below_then (h : Below b0 w0 w) (hb : Below w.heap.size w w') (hw : b0 ≤ w.heap.size) : Below b0 w0 w' := h.trans (hb.mono hw)
end

/-- A variable that holds a mesh: its block. -/
def BoxAt (W : World) (g : Nat) (t : TypeId) (u v : Value) : Prop := W.heap[g]? = some (.cells #[u, v] t (0, 0))
section
variable {W W' : World} {g c d : Nat} {t : TypeId} {u v : Value}
theorem BoxAt.below (h : BoxAt W g t u v) (hb : Below W.heap.size W W') : BoxAt W' g t u v := (hb.block g (blk_lt h)).trans h
theorem BoxAt.drawn (h : BoxAt W g t u v) (hd : Drawn0 W W') : BoxAt W' g t u v := h.below hd.below
theorem BoxAt.kept (h : BoxAt W g t u v) (hk : Kept W W' (In c d)) (ho : g < c ∨ d ≤ g) : BoxAt W' g t u v := blk_kept h hk (fun hi => by unfold In at hi; omega)
theorem BoxAt.new (W : World) (t : TypeId) (u v : Value) : BoxAt (W.alloc (.cells #[u, v] t)) W.heap.size t u v := heap_alloc_new W _
theorem BoxAt.c0 (h : BoxAt W g t u v) : W.cell? ⟨g, 0, none⟩ = some u := (blk_cell h 0).trans rfl
theorem BoxAt.c1 (h : BoxAt W g t u v) : W.cell? ⟨g, 1, none⟩ = some v := (blk_cell h 1).trans rfl
theorem BoxAt.lt (h : BoxAt W g t u v) : g < W.heap.size := blk_lt h
end

end Go.Proofs.Ytnibobbfepdeiaa
namespace Go.Proofs.Ytnibobbfepdeiaa
open Fl Go.RowKit Go.Proofs.YtnibobbfepdeiaaW.PrintWords Go.Proofs.Ytnibobbfepdeiaa.PMesh Msh
set_option linter.unusedVariables false

/-- A mesh that the reference has made: it is read alone. -/
def RefM (w : World) (a b : Nat) (vP vT : Value) (P : List S59) (T : List (List Int)) : Prop :=
  Kd.R k59 59 w a (In a b) vP P ∧ Kd.N (Kd.slice 2 (Kd.int .i64)) 34 w a (In a b) vT T
section
variable {w w' : World} {a b c d : Nat} {vP vT : Value} {P : List S59} {T : List (List Int)}
theorem RefM.below (h : RefM w a b vP vT P T) (hb : Below w.heap.size w w') : RefM w' a b vP vT P T := ⟨Kd.R_below h.1 hb, Kd.N_below h.2 hb⟩
theorem RefM.kept (h : RefM w a b vP vT P T) (hk : Kept w w' (In c d)) (ho : b ≤ c ∨ d ≤ a) : RefM w' a b vP vT P T := ⟨Kd.R_kept h.1 hk (In_off ho), Kd.N_kept h.2 hk (In_off ho)⟩
theorem RefM.C {A B : Option Addr} {n m e f : Nat} (h : RefM w a b (.slice A n e) (.slice B m f) P T) : Kd.C k59 w A P.length P ∧ P.length ≤ e ∧ Kd.C (Kd.slice 2 (Kd.int .i64)) w B T.length T ∧ T.length ≤ f := by
  obtain ⟨h1, h2, h3⟩ := Kd.R_reads' h.1
  obtain ⟨h4, h5, h6⟩ := Kd.N_reads' h.2
  exact ⟨h3, by omega, h6, by omega⟩
theorem N_in {α : Type} {d : Kd α} {e base : Nat} {w : World} {v : Value} {xs : List α} {ok : Nat → Prop} (h : Kd.N d e w base ok v xs) (hok : ∀ k, ok k → base ≤ k) : Kd.N d e w base (In base w.heap.size) v xs := Kd.N_mono (Kd.N_bound h) (fun k hk => ⟨hok k hk.1, hk.2⟩)
end
/-- What a function with a mesh and a bool leaves. -/
def AnsM (w : World) (P : List S59) (T : List (List Int)) (b : Bool) (E : Ending) (w' : World) : Prop := ∃ A c B e, E = .returned (.tuple #[.agg #[.slice A P.length c, .slice B T.length e], .bool b]) ∧ OwnM w' w.heap.size w'.heap.size (.slice A P.length c) (.slice B T.length e) P T ∧ Below w.heap.size w w'

end Go.Proofs.Ytnibobbfepdeiaa
namespace Go.Proofs.Ytnibobbfepdeiaa
open Fl Go.RowKit Go.Proofs.YtnibobbfepdeiaaW.PrintWords Go.Proofs.YtnibobbfepdeiaaW.PrintLast Go.Proofs.YtnibobbfepdeiaaW.PrintMore Go.Proofs.Ytnibobbfepdeiaa.PMesh Msh
set_option linter.unusedVariables false

theorem copy_loop (Q : List S59) (T : List (List Int)) (hT : T.length ≤ 1048576) (hr : ∀ t ∈ T, t.length ≤ 1048576) (d : Nat) : ∀ (k i : Nat), i ≤ T.length → T.length - i = d → d < k → impl_copyMesh.l0 k T (T.length : Int) (i : Int) Q (T.take i) = some (Q, T) := by
  induction d with
  | zero =>
    intro k i hi hd hk
    obtain ⟨k, rfl⟩ : ∃ j, k = j + 1 := ⟨k - 1, by omega⟩
    obtain rfl : i = T.length := by omega
    simp only [impl_copyMesh.l0]
    rw [if_neg (by omega), List.take_length]
  | succ d ih =>
    intro k i hi hd hk
    obtain ⟨k, rfl⟩ : ∃ j, k = j + 1 := ⟨k - 1, by omega⟩
    have hil : i < T.length := by omega
    have h3 := hr T[i] (List.getElem_mem hil)
    have e := ih k (i + 1) (by omega) (by omega) (by omega)
    rw [List.take_succ_eq_append_getElem hil] at e
    simp only [impl_copyMesh.l0, Option.bind_some, List.nil_append, List.length_nil]
    rw [if_pos (by omega), if_pos (by omega), if_pos (by omega), rdL T i hil, if_pos (by omega), if_pos (by rw [List.length_take]; omega), up i (by omega)]
    exact e
theorem copy_f (Q : List S59) (T : List (List Int)) (hQ : Q.length ≤ 1048576) (hT : T.length ≤ 1048576) (hr : ∀ t ∈ T, t.length ≤ 1048576) : impl_copyMesh.f 1048578 Q T = some (Q, T) := by
  unfold impl_copyMesh.f
  simp only [Option.bind_some, List.nil_append, List.length_nil]
  rw [if_pos (by omega)]
  exact copy_loop Q T hT hr T.length 1048578 0 (by omega) (by omega) (by omega)

theorem valid_rows {n : Nat} {T : List (List Int)} (hv : validB n T = true) : n ≤ 64 ∧ T.length ≤ 128 ∧ ∀ t ∈ T, t.length = 3 := by
  simp only [validB, Bool.and_eq_true, decide_eq_true_eq] at hv
  exact ⟨hv.1.1, hv.1.2, fun t ht => triB_len (List.all_eq_true.1 hv.2 t ht)⟩

theorem kept_two {w : World} {g : Nat} (u v : Value) : Kept w ((w.setCell ⟨g, 0, none⟩ u).setCell ⟨g, 1, none⟩ v) (fun k => k = g) := by
  have h1 : Kept w (w.setCell ⟨g, 0, none⟩ u) (fun k => k = g) := Kept.setCell (p := ⟨g, 0, none⟩) (Kept.refl w (fun k => k = g)) (Or.inl rfl) u
  exact Kept.setCell (p := ⟨g, 1, none⟩) h1 (Or.inl rfl) v

end Go.Proofs.Ytnibobbfepdeiaa
namespace Go.Proofs.Ytnibobbfepdeiaa
open Fl Go.RowKit Go.Proofs.YtnibobbfepdeiaaW.PrintWords Go.Proofs.YtnibobbfepdeiaaW.PrintLast Go.Proofs.YtnibobbfepdeiaaW.PrintMore Go.Proofs.Ytnibobbfepdeiaa.PMesh Msh
set_option linter.unusedVariables false

theorem oldc {w W : World} {a : Addr} {v : Value} (hb : Below w.heap.size w W) (h : w.cell? a = some v) : W.cell? a = some v := (hb.cell (World.block_lt_of_cell? _ _ h)).trans h

/-- The mesh's value if it is valid, else an empty mesh's. -/
def giveV (b : Bool) (u v : Value) : Value := if b = true then .agg #[u, v] else .agg #[.slice none 0 0, .slice none 0 0]

set_option maxHeartbeats 1000000 in
theorem impl_validMesh (A : Option Addr) (c : Nat) (Q : List S59) (B : Option Addr) (e : Nat) (T : List (List Int)) (w : World) (hQ : Kd.C k59 w A Q.length Q) (hq : Q.length ≤ c) (hT : Kd.C (Kd.slice 2 (Kd.int .i64)) w B T.length T) (hqt : T.length ≤ e) :
    Calls Try.prog 61 #[.agg #[.slice A Q.length c, .slice B T.length e]] w fun E w' => E = .returned (.tuple #[giveV (validB Q.length T) (.slice A Q.length c) (.slice B T.length e), .bool (validB Q.length T)]) ∧ Below w.heap.size w w' := by
  have hb0 := below_alloc (below_alloc (Below.refl w.heap.size w) (.cells #[.slice A Q.length c, .slice B T.length e] 30)) (.cells #[.slice none 0 0, .slice none 0 0] 30)
  have hbx := (BoxAt.new w 30 (.slice A Q.length c) (.slice B T.length e)).below (below_alloc (Below.refl _ _) (.cells #[.slice none 0 0, .slice none 0 0] 30))
  have hms : (w.alloc (.cells #[.slice A Q.length c, .slice B T.length e] 30)).heap.size = w.heap.size + 1 := by simp
  have hf0 := BoxAt.new (w.alloc (.cells #[.slice A Q.length c, .slice B T.length e] 30)) 30 (.slice none 0 0) (.slice none 0 0)
  rw [hms] at hf0
  have HX0 := Lib.hid hbx
  have HB0 := Lib.hid hb0
  have F0 := Lib.hid hf0
  have hc0 := hbx.c0
  have hc1 := hbx.c1
  have HV := Lib.hid (fun (W : World) (h : Below w.heap.size w W) => impl_ValidMesh.calls 2097156 A c Q B e T _ W (Kd.C_below hQ h) hq (Kd.C_below hT h) hqt (valid_f Q T _ (by omega)))
  generalize validB Q.length T = b at *
  clear hb0 hbx hf0 hms hQ hT hq hqt
  go_enter Try.func61, Try.ntmps61
  cases b
  · go_wp2_with (first
      | (go_at_call 41; refine (HV.out _ HB0.out).mono ?_; rintro E w1 ⟨rfl, hb⟩; have B1 := Lib.hid (below_then HB0.out hb HB0.out.size); have hf1 := F0.out.below hb; have f0 := hf1.c0; have f1 := hf1.c1; have z0 := blk_frozen hf1 0; have z1 := blk_frozen hf1 1; clear hb hc0 hc1)
      | fail)
    ((try simp only [Exit.inBlock, Exit.then]); refine bodyPost_ret (by simp [results, Try.results61, go_sem, f0, f1, setCell_same_of, World.cell?_setCell_other]; try rfl) rfl ?_)
    exact ⟨rfl, below_set (below_set B1.out (Nat.le_succ _)) (Nat.le_succ _)⟩
  · go_wp2_with (first
      | (go_at_call 41; refine (HV.out _ HB0.out).mono ?_; rintro E w1 ⟨rfl, hb⟩; have B1 := Lib.hid (below_then HB0.out hb HB0.out.size); have hx1 := HX0.out.below hb; have hd0 := hx1.c0; have hd1 := hx1.c1; have hf1 := F0.out.below hb; have f0 := hf1.c0; have f1 := hf1.c1; have z0 := blk_frozen hf1 0; have z1 := blk_frozen hf1 1; clear hb hc0 hc1)
      | fail)
    ((try simp only [Exit.inBlock, Exit.then]); refine bodyPost_ret (by simp [results, Try.results61, go_sem, f0, f1, setCell_same_of, World.cell?_setCell_other]; try rfl) rfl ?_)
    exact ⟨rfl, below_set (below_set B1.out (Nat.le_succ _)) (Nat.le_succ _)⟩

end Go.Proofs.Ytnibobbfepdeiaa
namespace Go.Proofs.Ytnibobbfepdeiaa
open Fl Go.RowKit Go.Proofs.YtnibobbfepdeiaaW.PrintWords Go.Proofs.Ytnibobbfepdeiaa.PMesh Msh
set_option linter.unusedVariables false

end Go.Proofs.Ytnibobbfepdeiaa
namespace Go.Proofs.Ytnibobbfepdeiaa
open Fl Go.RowKit Go.Proofs.YtnibobbfepdeiaaW.PrintWords Go.Proofs.Ytnibobbfepdeiaa.PMesh Msh
set_option linter.unusedVariables false

theorem simP_nil : simP [] [] := ⟨rfl, fun i ha _ => absurd ha (Nat.not_lt_zero _)⟩
theorem simP_append {a b a' b' : List S59} (h : simP a a') (k : simP b b') : simP (a ++ b) (a' ++ b') := by
  refine ⟨by simp [h.1, k.1], fun i ha hb => ?_⟩
  have e1 := h.1
  have e2 := k.1
  have ha' := ha
  have hb' := hb
  rw [List.length_append] at ha' hb'
  by_cases hi : i < a.length
  · rw [List.getElem_append_left hi, List.getElem_append_left (by rw [← h.1]; exact hi)]
    exact h.2 i hi _
  · rw [List.getElem_append_right (by omega), List.getElem_append_right (by rw [← h.1]; omega)]
    have := k.2 (i - a.length) (by omega) (by omega)
    simpa [h.1] using this
theorem simP_one {x y : S59} (h : simV x y) : simP [x] [y] := ⟨rfl, fun i ha hb => by
  have : i = 0 := by simp at ha; omega
  subst this
  exact h⟩

/-- What the program's function with a mesh and a bool leaves. -/
def AnsMs (w : World) (P : List S59) (T : List (List Int)) (b : Bool) (E : Ending) (w' : World) : Prop := ∃ P' A c B e, simP P' P ∧ E = .returned (.tuple #[.agg #[.slice A P.length c, .slice B T.length e], .bool b]) ∧ OwnM w' w.heap.size w'.heap.size (.slice A P.length c) (.slice B T.length e) P' T ∧ Below w.heap.size w w'
/-- What the reference's leaves. -/
def AnsRs (w : World) (P : List S59) (T : List (List Int)) (b : Bool) (E : Ending) (w' : World) : Prop := ∃ P' A c B e, simP P' P ∧ E = .returned (.tuple #[.agg #[.slice A P.length c, .slice B T.length e], .bool b]) ∧ RefM w' w.heap.size w'.heap.size (.slice A P.length c) (.slice B T.length e) P' T ∧ Below w.heap.size w w'
theorem OwnM.ref {w : World} {a b : Nat} {vP vT : Value} {P : List S59} {T : List (List Int)} (h : OwnM w a b vP vT P T) : RefM w a b vP vT P T := ⟨h.1, Kd.R_N (Kd.S_R h.2)⟩
theorem AnsM.s {w w' : World} {P : List S59} {T : List (List Int)} {b : Bool} {E : Ending} (h : AnsM w P T b E w') (hs : simP P P) : AnsMs w P T b E w' := by
  obtain ⟨A, c, B, e, rfl, hx, hb⟩ := h
  exact ⟨P, A, c, B, e, hs, rfl, hx, hb⟩
theorem AnsMs.r {w w' : World} {P : List S59} {T : List (List Int)} {b : Bool} {E : Ending} (h : AnsMs w P T b E w') : AnsRs w P T b E w' := by
  obtain ⟨P', A, c, B, e, hs, rfl, hx, hb⟩ := h
  exact ⟨P', A, c, B, e, hs, rfl, hx.ref, hb⟩

/-- A mesh that can be read. -/
def ReadM (w : World) (A : Option Addr) (c : Nat) (P : List S59) (B : Option Addr) (e : Nat) (T : List (List Int)) : Prop :=
  Kd.C k59 w A P.length P ∧ P.length ≤ c ∧ Kd.C (Kd.slice 2 (Kd.int .i64)) w B T.length T ∧ T.length ≤ e
theorem ReadM.below {w w' : World} {A B : Option Addr} {c e : Nat} {P : List S59} {T : List (List Int)} (h : ReadM w A c P B e T) (hb : Below w.heap.size w w') : ReadM w' A c P B e T := ⟨Kd.C_below h.1 hb, h.2.1, Kd.C_below h.2.2.1 hb, h.2.2.2⟩
theorem OwnM.read {w : World} {a b c e : Nat} {A B : Option Addr} {P : List S59} {T : List (List Int)} (h : OwnM w a b (.slice A P.length c) (.slice B T.length e) P T) : ReadM w A c P B e T := h.C
theorem RefM.read {w : World} {a b c e : Nat} {A B : Option Addr} {P : List S59} {T : List (List Int)} (h : RefM w a b (.slice A P.length c) (.slice B T.length e) P T) : ReadM w A c P B e T := h.C
/-- A variable that holds a vector of type t: its block. -/
def BoxT (W : World) (g : Nat) (t : TypeId) (p q s : Nat) : Prop := W.heap[g]? = some (.cells #[.float .f32 p, .float .f32 q, .float .f32 s] t (0, 0))
theorem BoxT.new (W : World) (t : TypeId) (p q s : Nat) : BoxT (W.alloc (.cells #[.float .f32 p, .float .f32 q, .float .f32 s] t)) W.heap.size t p q s := heap_alloc_new W _
section
variable {W W' : World} {g p q s c d : Nat} {t : TypeId}
theorem BoxT.below (h : BoxT W g t p q s) (hb : Below W.heap.size W W') : BoxT W' g t p q s := (hb.block g (blk_lt h)).trans h
theorem BoxT.kept (h : BoxT W g t p q s) (hk : Kept W W' (In c d)) (ho : g < c ∨ d ≤ g) : BoxT W' g t p q s := blk_kept h hk (fun hi => by unfold In at hi; omega)
theorem BoxT.c0 (h : BoxT W g t p q s) : W.cell? ⟨g, 0, none⟩ = some (.float .f32 p) := (blk_cell h 0).trans rfl
theorem BoxT.c1 (h : BoxT W g t p q s) : W.cell? ⟨g, 1, none⟩ = some (.float .f32 q) := (blk_cell h 1).trans rfl
theorem BoxT.c2 (h : BoxT W g t p q s) : W.cell? ⟨g, 2, none⟩ = some (.float .f32 s) := (blk_cell h 2).trans rfl
theorem BoxT.lt (h : BoxT W g t p q s) : g < W.heap.size := blk_lt h
end
end Go.Proofs.Ytnibobbfepdeiaa
namespace Go.Proofs.Ytnibobbfepdeiaa
set_option linter.unusedSimpArgs false
open Fl Go.RowKit Go.Proofs.YtnibobbfepdeiaaW.PrintWords Go.Proofs.YtnibobbfepdeiaaW.PrintLast Go.Proofs.YtnibobbfepdeiaaW.PrintMore Go.Proofs.Ytnibobbfepdeiaa.PMesh Msh
set_option linter.unusedVariables false

/-- A triangle's places moved on by n. -/
def shiftT (n : Nat) : List Int → List Int
  | [a, b, c] => [wrap64 (a + (n : Int)), wrap64 (b + (n : Int)), wrap64 (c + (n : Int))]
  | t => t
/-- The first mesh's triangles and i of the second's. -/
def joinT (T T' : List (List Int)) (n i : Nat) : List (List Int) := T ++ (T'.take i).map (shiftT n)
theorem joinT_zero (T T' : List (List Int)) (n : Nat) : joinT T T' n 0 = T := by simp [joinT]
theorem joinT_len (T T' : List (List Int)) (n i : Nat) (h : i ≤ T'.length) : (joinT T T' n i).length = T.length + i := by simp [joinT]; omega
theorem joinT_step (T T' : List (List Int)) (n i : Nat) (h : i < T'.length) : joinT T T' n (i + 1) = joinT T T' n i ++ [shiftT n T'[i]] := by
  unfold joinT
  rw [List.take_succ_eq_append_getElem h, List.map_append, List.map_singleton, List.append_assoc]
/-- A mesh if it is valid. -/
def joinV (P : List S59) (T : List (List Int)) : List S59 × List (List Int) × Bool := if validB P.length T = true then (P, T, true) else ([], [], false)
/-- What JoinMeshes answers. -/
def joinR (Q : List S59) (T : List (List Int)) (Q' : List S59) (T' : List (List Int)) : List S59 × List (List Int) × Bool := if validB Q.length T = true ∧ validB Q'.length T' = true then joinV (Q ++ Q') (joinT T T' Q.length T'.length) else ([], [], false)
theorem boxes3 (w : World) (t : TypeId) (u0 u1 v0 v1 x0 x1 : Value) : BoxAt (((w.alloc (.cells #[u0, u1] t)).alloc (.cells #[v0, v1] t)).alloc (.cells #[x0, x1] t)) w.heap.size t u0 u1 ∧ BoxAt (((w.alloc (.cells #[u0, u1] t)).alloc (.cells #[v0, v1] t)).alloc (.cells #[x0, x1] t)) (w.heap.size + 1) t v0 v1 ∧ BoxAt (((w.alloc (.cells #[u0, u1] t)).alloc (.cells #[v0, v1] t)).alloc (.cells #[x0, x1] t)) (w.heap.size + 1 + 1) t x0 x1 ∧ Below w.heap.size w (((w.alloc (.cells #[u0, u1] t)).alloc (.cells #[v0, v1] t)).alloc (.cells #[x0, x1] t)) := by
  have e1 : (w.alloc (.cells #[u0, u1] t)).heap.size = w.heap.size + 1 := by simp
  have e2 : ((w.alloc (.cells #[u0, u1] t)).alloc (.cells #[v0, v1] t)).heap.size = w.heap.size + 1 + 1 := by simp
  have b1 := below_alloc (Below.refl (w.alloc (.cells #[u0, u1] t)).heap.size (w.alloc (.cells #[u0, u1] t))) (.cells #[v0, v1] t)
  have b2 := below_alloc (Below.refl ((w.alloc (.cells #[u0, u1] t)).alloc (.cells #[v0, v1] t)).heap.size ((w.alloc (.cells #[u0, u1] t)).alloc (.cells #[v0, v1] t))) (.cells #[x0, x1] t)
  have n2 := BoxAt.new (w.alloc (.cells #[u0, u1] t)) t v0 v1
  have n3 := BoxAt.new ((w.alloc (.cells #[u0, u1] t)).alloc (.cells #[v0, v1] t)) t x0 x1
  rw [e1] at n2
  rw [e2] at n3
  exact ⟨((BoxAt.new w t u0 u1).below b1).below b2, n2.below b2, n3, below_alloc (below_alloc (below_alloc (Below.refl _ _) _) _) _⟩
theorem R_boxset {α : Type} {d : Kd α} {e : Nat} {w : World} {base : Nat} {v : Value} {xs : List α} (h : d.R e w base (fun _ => True) v xs) {g t : Nat} {cells : Array Value} (hb : w.heap[g]? = some (.cells cells t (0, 0))) (ht : ∀ q, q ∈ e :: d.E → q ≠ t) (j : Nat) (u : Value) : d.R e (w.setCell ⟨g, j, none⟩ u) base (fun _ => True) v xs :=
  Kd.R_mono (Kd.R_far (p := ⟨g, j, none⟩) (Kd.R_types h hb ht) (fun _ hk => hk.2) u) (fun _ _ => trivial)
end Go.Proofs.Ytnibobbfepdeiaa
namespace Go.Proofs.Ytnibobbfepdeiaa
open Fl Go.RowKit Go.Proofs.YtnibobbfepdeiaaW.PrintWords Go.Proofs.YtnibobbfepdeiaaW.PrintLast Go.Proofs.YtnibobbfepdeiaaW.PrintMore Go.Proofs.Ytnibobbfepdeiaa.PMesh Msh
set_option linter.unusedVariables false
set_option linter.unusedSimpArgs false

/-- Bits of a value. -/
def canB (X : Option Nat) : Nat := X.getD 2143289344
theorem canB_sim {r : Nat} {X : Option Nat} (h : FR .f32 r X) : simF r (canB X) = true := by
  obtain ⟨h1, h2⟩ := h
  replace h1 : r < 4294967296 := h1
  cases X with
  | none => exact simF_iff.2 ⟨h1, by decide, h2.trans (by decide +kernel)⟩
  | some b => obtain rfl := val_some h2; exact simF_iff.2 ⟨h1, h1, rfl⟩
def moveV (v0 v1 v2 : Nat) (x : S59) : S59 := ⟨canB (bin .add .f32 (val .f32 x.f0) (val .f32 v0)), canB (bin .add .f32 (val .f32 x.f1) (val .f32 v1)), canB (bin .add .f32 (val .f32 x.f2) (val .f32 v2))⟩
def scaleV (v : Nat) (x : S59) : S59 := ⟨canB (bin .mul .f32 (val .f32 x.f0) (val .f32 v)), canB (bin .mul .f32 (val .f32 x.f1) (val .f32 v)), canB (bin .mul .f32 (val .f32 x.f2) (val .f32 v))⟩
/-- What ScaleMesh answers. -/
def scaleR (Q : List S59) (T : List (List Int)) (v0 : Nat) : List S59 × List (List Int) × Bool := if validB Q.length T = true then (Q.map (scaleV v0), T, true) else ([], [], false)
/-- The first i places are changed, up to what no law sees. -/
def PartP (f : S59 → S59) (Q l : List S59) (i : Nat) : Prop := l.length = Q.length ∧ (∀ j (h : j < l.length) (h' : j < Q.length), j < i → simV l[j] (f Q[j])) ∧ ∀ j (h : j < l.length) (h' : j < Q.length), i ≤ j → l[j] = Q[j]
theorem PartP.zero (f : S59 → S59) (Q : List S59) : PartP f Q Q 0 := ⟨rfl, fun j _ _ h => absurd h (Nat.not_lt_zero _), fun _ _ _ _ => rfl⟩
theorem PartP.at_ {f : S59 → S59} {Q l : List S59} {i : Nat} (h : PartP f Q l i) (hi : i < Q.length) : l.getD i ⟨0, 0, 0⟩ = Q[i] := by
  have hl : i < l.length := by rw [h.1]; exact hi
  rw [List.getD_eq_getElem?_getD, List.getElem?_eq_getElem hl]
  exact h.2.2 i hl hi (Nat.le_refl _)
theorem PartP.set {f : S59 → S59} {Q l : List S59} {i : Nat} {y : S59} (h : PartP f Q l i) (hi : i < Q.length) (hy : simV y (f Q[i])) : PartP f Q (l.set i y) (i + 1) := by
  refine ⟨by rw [List.length_set]; exact h.1, fun j hj hj' hlt => ?_, fun j hj hj' hle => ?_⟩
  · by_cases he : i = j
    · subst he; rw [List.getElem_set_self]; exact hy
    · rw [List.getElem_set_ne he]; exact h.2.1 j _ hj' (by omega)
  · rw [List.getElem_set_ne (by omega)]; exact h.2.2 j _ hj' (by omega)
theorem PartP.all_ {f : S59 → S59} {Q l : List S59} (h : PartP f Q l Q.length) : simP l (Q.map f) := ⟨by rw [List.length_map]; exact h.1, fun i ha hb => by rw [List.getElem_map]; exact h.2.1 i ha (by rw [List.length_map] at hb; exact hb) (by rw [List.length_map] at hb; exact hb)⟩
theorem boxes2m (w : World) (t t' : TypeId) (u0 u1 x0 x1 : Value) : BoxAt ((w.alloc (.cells #[u0, u1] t)).alloc (.cells #[x0, x1] t')) w.heap.size t u0 u1 ∧ BoxAt ((w.alloc (.cells #[u0, u1] t)).alloc (.cells #[x0, x1] t')) (w.heap.size + 1) t' x0 x1 ∧ Below w.heap.size w ((w.alloc (.cells #[u0, u1] t)).alloc (.cells #[x0, x1] t')) := by
  have e1 : (w.alloc (.cells #[u0, u1] t)).heap.size = w.heap.size + 1 := by simp
  have b1 := below_alloc (Below.refl (w.alloc (.cells #[u0, u1] t)).heap.size (w.alloc (.cells #[u0, u1] t))) (.cells #[x0, x1] t')
  have n2 := BoxAt.new (w.alloc (.cells #[u0, u1] t)) t' x0 x1
  rw [e1] at n2
  exact ⟨(BoxAt.new w t u0 u1).below b1, n2, below_alloc (below_alloc (Below.refl _ _) _) _⟩
section
variable {P : Program} {ops : Array Oper} {Q : Exit → Act → World → Prop}
/-- A call of a function value that lies in a slot (as goes_). -/
theorem goesV_ {oi : Oper} {N : Option Tmp} {a : Act} {w : World} {K : Act → World → Prop} {f : FuncId} {fn : Func} {xs_ : Array Operand} {ts : Array TypeId} {t : Tmp} {cap : Array Value} (hf : P.funcs[f]? = some fn) (hname : (fn.name == "runtime.NumGoroutine") = false) (hb : fn.body.isSome = true) (args : Array Value)
    (hw : Region.wanted oi (yielded ops a.tmps) = true) (hN : oi.dst = N) (hop : oi.op = .call { callee := .value (.tmp t), args := xs_, argTypes := ts }) (hv : a.eval (.tmp t) = .func (.func f) #[] cap) (hargs : xs_.map a.eval ++ cap = args)
    (h : Calls P f args w fun e w' => ∃ v, e = .returned v ∧ K (a.put N v) w') : if Region.wanted oi (yielded ops a.tmps) = true then Oper.wp P oi a w K Q else K (a.put N undef) w := by
  refine call_ f args hw hN ?_ h
  have he := enters_ hf hname hb args w
  unfold execOp
  simp [hop, resolve, Deferred.ofValue, invoke, hv]
  rw [hargs]
  exact he
end
/-- A variable that holds a number of type t: its block. -/
def Box1 (W : World) (g : Nat) (t : TypeId) (p : Nat) : Prop := W.heap[g]? = some (.cells #[.float .f32 p] t (0, 0))
theorem Box1.below {W W' : World} {g p : Nat} {t : TypeId} (h : Box1 W g t p) (hb : Below W.heap.size W W') : Box1 W' g t p := (hb.block g (blk_lt h)).trans h
theorem Box1.c0 {W : World} {g p : Nat} {t : TypeId} (h : Box1 W g t p) : W.cell? ⟨g, 0, none⟩ = some (.float .f32 p) := (blk_cell h 0).trans rfl
end Go.Proofs.Ytnibobbfepdeiaa
namespace Go.Proofs.Ytnibobbfepdeiaa
open Fl Go.RowKit Go.Proofs.YtnibobbfepdeiaaW.PrintWords Go.Proofs.YtnibobbfepdeiaaW.PrintLast Go.Proofs.YtnibobbfepdeiaaW.PrintMore Go.Proofs.Ytnibobbfepdeiaa.PMesh Msh
set_option linter.unusedVariables false
set_option linter.unusedSimpArgs false

/-- n bytes can be read from A on. -/
def Byt (w : World) (A : Option Addr) (n : Nat) : Prop := ∀ i, i < n → ∃ (a : Addr) (x : Nat), A = some a ∧ x < 256 ∧ w.cell? (a.add i) = some (.int .u8 (x : Int))
theorem Byt.below {w W : World} {A : Option Addr} {n : Nat} (h : Byt w A n) (hb : Below w.heap.size w W) : Byt W A n := fun i hi => by
  obtain ⟨a, x, h1, h2, h3⟩ := h i hi
  exact ⟨a, x, h1, h2, (hb.cell (World.block_lt_of_cell? _ _ h3)).trans h3⟩
theorem Byt.from {w w0 W : World} {A : Option Addr} {n : Nat} (h : Byt w0 A n) (hb : Below w0.heap.size w0 W) : Byt W A n := h.below hb

/-- The source at block g: what it reads, where it stands, its seed. -/
def SrcB (W : World) (g : Nat) (A : Option Addr) (n c : Nat) (k : Nat) (sd : Int) : Prop := W.heap[g]? = some (.cells #[.slice A n c, .int .i64 (k : Int), .int .u64 sd] 120 (0, 0))
section
variable {W W' : World} {g : Nat} {A : Option Addr} {n c k : Nat} {sd : Int}
theorem SrcB.below (h : SrcB W g A n c k sd) (hb : Below W.heap.size W W') : SrcB W' g A n c k sd := (hb.block g (blk_lt h)).trans h
theorem SrcB.c0 (h : SrcB W g A n c k sd) : W.cell? ⟨g, 0, none⟩ = some (.slice A n c) := (blk_cell h 0).trans rfl
theorem SrcB.c1 (h : SrcB W g A n c k sd) : W.cell? ⟨g, 1, none⟩ = some (.int .i64 (k : Int)) := (blk_cell h 1).trans rfl
theorem SrcB.c2 (h : SrcB W g A n c k sd) : W.cell? ⟨g, 2, none⟩ = some (.int .u64 sd) := (blk_cell h 2).trans rfl
end
theorem grownBy_set (W : World) (b i : Nat) (v : Value) : W.grownBy (W.setCell ⟨b, i, none⟩ v) (some b) :=
  ⟨rfl, rfl, rfl, Nat.le_of_eq (by simp [World.setCell]), fun k _ hk => Below.heap_setCell _ _ _ k (fun e => hk (by rw [e]))⟩

theorem seed_byte (Y : Int) : ∃ x : Nat, x < 256 ∧ wrap64 (bits .and .u64 (IntKind.u64.wrap Y / 1099511627776) 255) = (x : Int) := by
  have h0 : 0 ≤ IntKind.u64.wrap Y := by rw [IntKind.wrap_u64]; omega
  have h1 : IntKind.u64.wrap Y < 18446744073709551616 := by rw [IntKind.wrap_u64]; omega
  obtain ⟨m, hm⟩ : ∃ m : Nat, IntKind.u64.wrap Y / 1099511627776 = (m : Int) := ⟨_, (Int.toNat_of_nonneg (by omega)).symm⟩
  rw [hm, show (255 : Int) = ((255 : Nat) : Int) from rfl, u64_and_nat m 255 (by omega) (by decide)]
  have := Nat.and_le_right (n := m) (m := 255)
  exact ⟨m &&& 255, by omega, Msh.wrap_fit (by omega) (by omega)⟩

set_option maxHeartbeats 1000000 in
theorem src_next (g : Nat) (A : Option Addr) (n c k : Nat) (sd : Int) (w : World) (hn : n ≤ 48) (hk : k ≤ 1000) (hS : SrcB w g A n c k sd) (hB : Byt w A n) :
    Calls Try.prog 97 #[.pointer (some ⟨g, 0, none⟩)] w fun E w' => ∃ (x : Nat) (sd' : Int), E = .returned (.int .i64 (x : Int)) ∧ x < 256 ∧ SrcB w' g A n c (k + 1) sd' ∧ w.grownBy w' (some g) := by
  have c0 := hS.c0
  have c1 := hS.c1
  have c2 := hS.c2
  have z1 := blk_frozen hS 1
  have z2 := blk_frozen hS 2
  have k3 : wrap64 ((k : Int) + 1) = (k : Int) + 1 := Msh.wrap_fit (by omega) (by omega)
  by_cases h : k < n
  · obtain ⟨a, x, rfl, hx, hc⟩ := hB k h
    have k1 : (k : Int) < (n : Int) := by omega
    have k2 : (k : Int) + 1 ≤ (n : Int) := by omega
    have k4 : (0 : Int) ≤ (k : Int) := by omega
    go_enter Try.func97, Try.ntmps97
    go_wp2_with fail
    refine start_ (n := 10) (S := fun w' => w'.cell? ⟨g, 0, none⟩ = some (.slice (some a) n c) ∧ w'.cell? ⟨g, 1, none⟩ = some (.int .i64 ((k : Int)))) (ds := []) #[false, false, false, false, false, false, false, false, false, false] (by kernel_rfl) rfl rfl ⟨c0, c1⟩ (fun hHeld => ?_)
    refine pure_ (i := 0) (N := (some 4)) (v := ?_) (a' := ?_) #[true, false, false, false, false, false, false, false, false, false] rfl rfl (by kernel_rfl) (fun _ _ _ h => h) (Or.inl ⟨by rfl, ?_⟩) ?_ ?_
    rotate_left
    · intro w'
      go_simp
      with_reducible rfl
    rotate_left
    · simp only [Act.put, List.setIfInBounds_toArray, List.set_cons_zero, List.set_cons_succ, i64_w, i32_w]; rfl
    refine pure_ (i := 1) (N := (some 5)) (v := ?_) (a' := ?_) #[true, true, false, false, false, false, false, false, false, false] rfl rfl (by kernel_rfl) (fun _ _ _ h => h) (Or.inl ⟨by rfl, ?_⟩) ?_ ?_
    rotate_left
    · intro w'
      go_simp
      with_reducible rfl
    rotate_left
    · simp only [Act.put, List.setIfInBounds_toArray, List.set_cons_zero, List.set_cons_succ, i64_w, i32_w]; rfl
    refine pure_ (i := 2) (N := (some 6)) (v := ?_) (a' := ?_) #[true, true, true, false, false, false, false, false, false, false] rfl rfl (by kernel_rfl) (fun _ _ _ h => h) (Or.inl ⟨by rfl, ?_⟩) ?_ ?_
    rotate_left
    · intro w'
      go_simp
      with_reducible rfl
    rotate_left
    · simp only [Act.put, List.setIfInBounds_toArray, List.set_cons_zero, List.set_cons_succ, i64_w, i32_w]; rfl
    refine pure_ (i := 4) (N := (some 8)) (v := ?_) (a' := ?_) #[true, true, true, false, true, false, false, false, false, false] rfl rfl (by kernel_rfl) (fun _ _ _ h => h) (Or.inl ⟨by rfl, ?_⟩) ?_ ?_
    rotate_left
    · intro w'
      go_simp
      with_reducible rfl
    rotate_left
    · simp only [Act.put, List.setIfInBounds_toArray, List.set_cons_zero, List.set_cons_succ, i64_w, i32_w]; rfl
    refine pure_ (i := 5) (N := (some 9)) (v := ?_) (a' := ?_) #[true, true, true, false, true, true, false, false, false, false] rfl rfl (by kernel_rfl) (fun _ _ _ h => h) (Or.inl ⟨by rfl, ?_⟩) ?_ ?_
    rotate_left
    · intro w'
      go_simp
      with_reducible rfl
    rotate_left
    · simp only [Act.put, List.setIfInBounds_toArray, List.set_cons_zero, List.set_cons_succ, i64_w, i32_w]; rfl
    refine pure_ (i := 6) (N := (some 10)) (v := ?_) (a' := ?_) #[true, true, true, false, true, true, true, false, false, false] rfl rfl (by kernel_rfl) (fun _ _ _ h => h) (Or.inl ⟨by rfl, ?_⟩) ?_ ?_
    rotate_left
    · intro w'
      go_simp
      with_reducible rfl
    rotate_left
    · simp only [Act.put, List.setIfInBounds_toArray, List.set_cons_zero, List.set_cons_succ, i64_w, i32_w]; rfl
    refine take_ (i := 3) (N := (some 7)) (v := ?_) (a' := ?_) #[true, true, true, true, true, true, true, false, false, false] rfl rfl (by kernel_rfl) (fun _ _ _ h => h) (Or.inl ⟨by rfl, ?_⟩) hHeld ?_ ?_
    rotate_left
    · intro w' hSw
      (try dsimp only at hSw)
      go_simp
      with_reducible rfl
    rotate_left
    · simp only [Act.put, List.setIfInBounds_toArray, List.set_cons_zero, List.set_cons_succ, i64_w, i32_w]; rfl
    refine take_ (i := 7) (N := (some 11)) (v := ?_) (a' := ?_) #[true, true, true, true, true, true, true, true, false, false] rfl rfl (by kernel_rfl) (fun _ _ _ h => h) (Or.inl ⟨by rfl, ?_⟩) hHeld ?_ ?_
    rotate_left
    · intro w' hSw
      (try dsimp only at hSw)
      go_simp
      with_reducible rfl
    rotate_left
    · simp only [Act.put, List.setIfInBounds_toArray, List.set_cons_zero, List.set_cons_succ, i64_w, i32_w]; rfl
    refine pure_ (i := 8) (N := (some 12)) (v := ?_) (a' := ?_) #[true, true, true, true, true, true, true, true, true, false] rfl rfl (by kernel_rfl) (fun _ _ _ h => h) (Or.inl ⟨by rfl, ?_⟩) ?_ ?_
    rotate_left
    · intro w'
      go_simp
      with_reducible rfl
    rotate_left
    · simp only [Act.put, List.setIfInBounds_toArray, List.set_cons_zero, List.set_cons_succ, i64_w, i32_w]; rfl
    refine pure_ (i := 9) (N := (some 13)) (v := ?_) (a' := ?_) #[true, true, true, true, true, true, true, true, true, true] rfl rfl (by kernel_rfl) (fun _ _ _ h => h) (Or.inl ⟨by rfl, ?_⟩) ?_ ?_
    rotate_left
    · intro w'
      go_simp
      with_reducible rfl
    rotate_left
    · simp only [Act.put, List.setIfInBounds_toArray, List.set_cons_zero, List.set_cons_succ, i64_w, i32_w]; rfl
    refine done_ (by kernel_rfl) ?_
    go_wp2_with fail
    refine start_ (n := 12) (S := fun w' => w'.cell? ⟨g, 0, none⟩ = some (.slice (some a) n c) ∧ w'.cell? ⟨g, 1, none⟩ = some (.int .i64 ((k : Int))) ∧ w'.cell? (a.add k) = some (.int .u8 (x : Int))) (ds := []) #[false, false, false, false, false, false, false, false, false, false, false, false] (by kernel_rfl) rfl rfl ⟨c0, c1, hc⟩ (fun hHeld => ?_)
    refine pure_ (i := 0) (N := (some 14)) (v := ?_) (a' := ?_) #[true, false, false, false, false, false, false, false, false, false, false, false] rfl rfl (by kernel_rfl) (fun _ _ _ h => h) (Or.inl ⟨by rfl, ?_⟩) ?_ ?_
    rotate_left
    · intro w'
      go_simp
      with_reducible rfl
    rotate_left
    · simp only [Act.put, List.setIfInBounds_toArray, List.set_cons_zero, List.set_cons_succ, i64_w, i32_w]; rfl
    refine pure_ (i := 1) (N := (some 15)) (v := ?_) (a' := ?_) #[true, true, false, false, false, false, false, false, false, false, false, false] rfl rfl (by kernel_rfl) (fun _ _ _ h => h) (Or.inl ⟨by rfl, ?_⟩) ?_ ?_
    rotate_left
    · intro w'
      go_simp
      with_reducible rfl
    rotate_left
    · simp only [Act.put, List.setIfInBounds_toArray, List.set_cons_zero, List.set_cons_succ, i64_w, i32_w]; rfl
    refine pure_ (i := 2) (N := (some 16)) (v := ?_) (a' := ?_) #[true, true, true, false, false, false, false, false, false, false, false, false] rfl rfl (by kernel_rfl) (fun _ _ _ h => h) (Or.inl ⟨by rfl, ?_⟩) ?_ ?_
    rotate_left
    · intro w'
      go_simp
      with_reducible rfl
    rotate_left
    · simp only [Act.put, List.setIfInBounds_toArray, List.set_cons_zero, List.set_cons_succ, i64_w, i32_w]; rfl
    refine pure_ (i := 4) (N := (some 18)) (v := ?_) (a' := ?_) #[true, true, true, false, true, false, false, false, false, false, false, false] rfl rfl (by kernel_rfl) (fun _ _ _ h => h) (Or.inl ⟨by rfl, ?_⟩) ?_ ?_
    rotate_left
    · intro w'
      go_simp
      with_reducible rfl
    rotate_left
    · simp only [Act.put, List.setIfInBounds_toArray, List.set_cons_zero, List.set_cons_succ, i64_w, i32_w]; rfl
    refine pure_ (i := 5) (N := (some 19)) (v := ?_) (a' := ?_) #[true, true, true, false, true, true, false, false, false, false, false, false] rfl rfl (by kernel_rfl) (fun _ _ _ h => h) (Or.inl ⟨by rfl, ?_⟩) ?_ ?_
    rotate_left
    · intro w'
      go_simp
      with_reducible rfl
    rotate_left
    · simp only [Act.put, List.setIfInBounds_toArray, List.set_cons_zero, List.set_cons_succ, i64_w, i32_w]; rfl
    refine pure_ (i := 6) (N := (some 20)) (v := ?_) (a' := ?_) #[true, true, true, false, true, true, true, false, false, false, false, false] rfl rfl (by kernel_rfl) (fun _ _ _ h => h) (Or.inl ⟨by rfl, ?_⟩) ?_ ?_
    rotate_left
    · intro w'
      go_simp
      with_reducible rfl
    rotate_left
    · simp only [Act.put, List.setIfInBounds_toArray, List.set_cons_zero, List.set_cons_succ, i64_w, i32_w]; rfl
    refine take_ (i := 3) (N := (some 17)) (v := ?_) (a' := ?_) #[true, true, true, true, true, true, true, false, false, false, false, false] rfl rfl (by kernel_rfl) (fun _ _ _ h => h) (Or.inl ⟨by rfl, ?_⟩) hHeld ?_ ?_
    rotate_left
    · intro w' hSw
      (try dsimp only at hSw)
      go_simp
      with_reducible rfl
    rotate_left
    · simp only [Act.put, List.setIfInBounds_toArray, List.set_cons_zero, List.set_cons_succ, i64_w, i32_w]; rfl
    refine take_ (i := 7) (N := (some 21)) (v := ?_) (a' := ?_) #[true, true, true, true, true, true, true, true, false, false, false, false] rfl rfl (by kernel_rfl) (fun _ _ _ h => h) (Or.inl ⟨by rfl, ?_⟩) hHeld ?_ ?_
    rotate_left
    · intro w' hSw
      (try dsimp only at hSw)
      go_simp
      with_reducible rfl
    rotate_left
    · simp only [Act.put, List.setIfInBounds_toArray, List.set_cons_zero, List.set_cons_succ, i64_w, i32_w]; rfl
    refine pure_ (i := 8) (N := (some 22)) (v := ?_) (a' := ?_) #[true, true, true, true, true, true, true, true, true, false, false, false] rfl rfl (by kernel_rfl) (fun _ _ _ h => h) (Or.inl ⟨by rfl, ?_⟩) ?_ ?_
    rotate_left
    · intro w'
      go_simp
      with_reducible rfl
    rotate_left
    · simp only [Act.put, List.setIfInBounds_toArray, List.set_cons_zero, List.set_cons_succ, i64_w, i32_w]; rfl
    refine take_ (i := 9) (N := (some 23)) (v := ?_) (a' := ?_) #[true, true, true, true, true, true, true, true, true, true, false, false] rfl rfl (by kernel_rfl) (fun _ _ _ h => h) (Or.inl ⟨by rfl, ?_⟩) hHeld ?_ ?_
    rotate_left
    · intro w' hSw
      (try dsimp only at hSw)
      go_simp
      with_reducible rfl
    rotate_left
    · simp only [Act.put, List.setIfInBounds_toArray, List.set_cons_zero, List.set_cons_succ, i64_w, i32_w]; rfl
    refine pure_ (i := 10) (N := (some 24)) (v := ?_) (a' := ?_) #[true, true, true, true, true, true, true, true, true, true, true, false] rfl rfl (by kernel_rfl) (fun _ _ _ h => h) (Or.inl ⟨by rfl, ?_⟩) ?_ ?_
    rotate_left
    · intro w'
      go_simp
      with_reducible rfl
    rotate_left
    · simp only [Act.put, List.setIfInBounds_toArray, List.set_cons_zero, List.set_cons_succ, i64_w, i32_w]; rfl
    refine pure_ (i := 11) (N := (some 3)) (v := ?_) (a' := ?_) #[true, true, true, true, true, true, true, true, true, true, true, true] rfl rfl (by kernel_rfl) (fun _ _ _ h => h) (Or.inl ⟨by rfl, ?_⟩) ?_ ?_
    rotate_left
    · intro w'
      go_simp
      with_reducible rfl
    rotate_left
    · simp only [Act.put, List.setIfInBounds_toArray, List.set_cons_zero, List.set_cons_succ, i64_w, i32_w]; rfl
    refine done_ (by kernel_rfl) ?_
    have hS2 : SrcB (w.drew.drew) g (some a) n c k sd := hS
    have hP : ∀ u, SrcB ((((w.drew.drew).setCell ⟨g, 1, none⟩ (.int .i64 ((k : Int) + 1))).setCell ⟨g, 2, none⟩ (.int .u64 u)).drew) g (some a) n c (k + 1) u := fun u => blk_put (blk_put hS2 1 _ rfl) 2 _ rfl
    have hG : ∀ u, w.grownBy ((((w.drew.drew).setCell ⟨g, 1, none⟩ (.int .i64 ((k : Int) + 1))).setCell ⟨g, 2, none⟩ (.int .u64 u)).drew) (some g) := fun u => Go.World.grownBy.trans (⟨rfl, rfl, rfl, Nat.le_refl _, fun _ _ _ => rfl⟩ : w.grownBy (w.drew.drew) (some g)) (Go.World.grownBy.trans (grownBy_set (w.drew.drew) g 1 _) ((fun h => ⟨h.os, h.tape, h.output, h.size, h.block⟩ : ∀ {a b : World}, a.grownBy b (some g) → a.grownBy b.drew (some g)) (grownBy_set _ g 2 _)))
    go_wp2_with fail
    refine start_ (n := 10) (S := fun w' => w'.cell? ⟨g, 0, none⟩ = some (.slice (some a) n c) ∧ w'.cell? ⟨g, 1, none⟩ = some (.int .i64 ((k : Int) + 1))) (ds := []) #[false, false, false, false, false, false, false, false, false, false] (by kernel_rfl) rfl rfl ⟨(hP _).c0, (hP _).c1⟩ (fun hHeld => ?_)
    refine pure_ (i := 0) (N := (some 44)) (v := ?_) (a' := ?_) #[true, false, false, false, false, false, false, false, false, false] rfl rfl (by kernel_rfl) (fun _ _ _ h => h) (Or.inl ⟨by rfl, ?_⟩) ?_ ?_
    rotate_left
    · intro w'
      go_simp
      with_reducible rfl
    rotate_left
    · simp only [Act.put, List.setIfInBounds_toArray, List.set_cons_zero, List.set_cons_succ, i64_w, i32_w]; rfl
    refine pure_ (i := 1) (N := (some 45)) (v := ?_) (a' := ?_) #[true, true, false, false, false, false, false, false, false, false] rfl rfl (by kernel_rfl) (fun _ _ _ h => h) (Or.inl ⟨by rfl, ?_⟩) ?_ ?_
    rotate_left
    · intro w'
      go_simp
      with_reducible rfl
    rotate_left
    · simp only [Act.put, List.setIfInBounds_toArray, List.set_cons_zero, List.set_cons_succ, i64_w, i32_w]; rfl
    refine pure_ (i := 2) (N := (some 46)) (v := ?_) (a' := ?_) #[true, true, true, false, false, false, false, false, false, false] rfl rfl (by kernel_rfl) (fun _ _ _ h => h) (Or.inl ⟨by rfl, ?_⟩) ?_ ?_
    rotate_left
    · intro w'
      go_simp
      with_reducible rfl
    rotate_left
    · simp only [Act.put, List.setIfInBounds_toArray, List.set_cons_zero, List.set_cons_succ, i64_w, i32_w]; rfl
    refine pure_ (i := 4) (N := (some 48)) (v := ?_) (a' := ?_) #[true, true, true, false, true, false, false, false, false, false] rfl rfl (by kernel_rfl) (fun _ _ _ h => h) (Or.inl ⟨by rfl, ?_⟩) ?_ ?_
    rotate_left
    · intro w'
      go_simp
      with_reducible rfl
    rotate_left
    · simp only [Act.put, List.setIfInBounds_toArray, List.set_cons_zero, List.set_cons_succ, i64_w, i32_w]; rfl
    refine pure_ (i := 5) (N := (some 49)) (v := ?_) (a' := ?_) #[true, true, true, false, true, true, false, false, false, false] rfl rfl (by kernel_rfl) (fun _ _ _ h => h) (Or.inl ⟨by rfl, ?_⟩) ?_ ?_
    rotate_left
    · intro w'
      go_simp
      with_reducible rfl
    rotate_left
    · simp only [Act.put, List.setIfInBounds_toArray, List.set_cons_zero, List.set_cons_succ, i64_w, i32_w]; rfl
    refine pure_ (i := 6) (N := (some 50)) (v := ?_) (a' := ?_) #[true, true, true, false, true, true, true, false, false, false] rfl rfl (by kernel_rfl) (fun _ _ _ h => h) (Or.inl ⟨by rfl, ?_⟩) ?_ ?_
    rotate_left
    · intro w'
      go_simp
      with_reducible rfl
    rotate_left
    · simp only [Act.put, List.setIfInBounds_toArray, List.set_cons_zero, List.set_cons_succ, i64_w, i32_w]; rfl
    refine take_ (i := 3) (N := (some 47)) (v := ?_) (a' := ?_) #[true, true, true, true, true, true, true, false, false, false] rfl rfl (by kernel_rfl) (fun _ _ _ h => h) (Or.inl ⟨by rfl, ?_⟩) hHeld ?_ ?_
    rotate_left
    · intro w' hSw
      (try dsimp only at hSw)
      go_simp
      with_reducible rfl
    rotate_left
    · simp only [Act.put, List.setIfInBounds_toArray, List.set_cons_zero, List.set_cons_succ, i64_w, i32_w]; rfl
    refine take_ (i := 7) (N := (some 51)) (v := ?_) (a' := ?_) #[true, true, true, true, true, true, true, true, false, false] rfl rfl (by kernel_rfl) (fun _ _ _ h => h) (Or.inl ⟨by rfl, ?_⟩) hHeld ?_ ?_
    rotate_left
    · intro w' hSw
      (try dsimp only at hSw)
      go_simp
      with_reducible rfl
    rotate_left
    · simp only [Act.put, List.setIfInBounds_toArray, List.set_cons_zero, List.set_cons_succ, i64_w, i32_w]; rfl
    refine pure_ (i := 8) (N := (some 52)) (v := ?_) (a' := ?_) #[true, true, true, true, true, true, true, true, true, false] rfl rfl (by kernel_rfl) (fun _ _ _ h => h) (Or.inl ⟨by rfl, ?_⟩) ?_ ?_
    rotate_left
    · intro w'
      go_simp
      with_reducible rfl
    rotate_left
    · simp only [Act.put, List.setIfInBounds_toArray, List.set_cons_zero, List.set_cons_succ, i64_w, i32_w]; rfl
    refine pure_ (i := 9) (N := (some 53)) (v := ?_) (a' := ?_) #[true, true, true, true, true, true, true, true, true, true] rfl rfl (by kernel_rfl) (fun _ _ _ h => h) (Or.inl ⟨by rfl, ?_⟩) ?_ ?_
    rotate_left
    · intro w'
      go_simp
      with_reducible rfl
    rotate_left
    · simp only [Act.put, List.setIfInBounds_toArray, List.set_cons_zero, List.set_cons_succ, i64_w, i32_w]; rfl
    refine done_ (by kernel_rfl) ?_
    skip
    go_wp2_with fail
    go_ret
    refine ⟨x, _, ?_, hx, hP _, hG _⟩
    show Ending.returned (.int .i64 (wrap64 (x : Int))) = _
    rw [Msh.wrap_fit (by omega) (by omega)]
  · have k1 : ¬ (k : Int) < (n : Int) := by omega
    have k2 : ¬ (k : Int) + 1 ≤ (n : Int) := by omega
    have k4 : (0 : Int) ≤ (k : Int) := by omega
    go_enter Try.func97, Try.ntmps97
    go_wp2_with fail
    refine start_ (n := 10) (S := fun w' => w'.cell? ⟨g, 0, none⟩ = some (.slice A n c) ∧ w'.cell? ⟨g, 1, none⟩ = some (.int .i64 ((k : Int)))) (ds := []) #[false, false, false, false, false, false, false, false, false, false] (by kernel_rfl) rfl rfl ⟨c0, c1⟩ (fun hHeld => ?_)
    refine pure_ (i := 0) (N := (some 4)) (v := ?_) (a' := ?_) #[true, false, false, false, false, false, false, false, false, false] rfl rfl (by kernel_rfl) (fun _ _ _ h => h) (Or.inl ⟨by rfl, ?_⟩) ?_ ?_
    rotate_left
    · intro w'
      go_simp
      with_reducible rfl
    rotate_left
    · simp only [Act.put, List.setIfInBounds_toArray, List.set_cons_zero, List.set_cons_succ, i64_w, i32_w]; rfl
    refine pure_ (i := 1) (N := (some 5)) (v := ?_) (a' := ?_) #[true, true, false, false, false, false, false, false, false, false] rfl rfl (by kernel_rfl) (fun _ _ _ h => h) (Or.inl ⟨by rfl, ?_⟩) ?_ ?_
    rotate_left
    · intro w'
      go_simp
      with_reducible rfl
    rotate_left
    · simp only [Act.put, List.setIfInBounds_toArray, List.set_cons_zero, List.set_cons_succ, i64_w, i32_w]; rfl
    refine pure_ (i := 2) (N := (some 6)) (v := ?_) (a' := ?_) #[true, true, true, false, false, false, false, false, false, false] rfl rfl (by kernel_rfl) (fun _ _ _ h => h) (Or.inl ⟨by rfl, ?_⟩) ?_ ?_
    rotate_left
    · intro w'
      go_simp
      with_reducible rfl
    rotate_left
    · simp only [Act.put, List.setIfInBounds_toArray, List.set_cons_zero, List.set_cons_succ, i64_w, i32_w]; rfl
    refine pure_ (i := 4) (N := (some 8)) (v := ?_) (a' := ?_) #[true, true, true, false, true, false, false, false, false, false] rfl rfl (by kernel_rfl) (fun _ _ _ h => h) (Or.inl ⟨by rfl, ?_⟩) ?_ ?_
    rotate_left
    · intro w'
      go_simp
      with_reducible rfl
    rotate_left
    · simp only [Act.put, List.setIfInBounds_toArray, List.set_cons_zero, List.set_cons_succ, i64_w, i32_w]; rfl
    refine pure_ (i := 5) (N := (some 9)) (v := ?_) (a' := ?_) #[true, true, true, false, true, true, false, false, false, false] rfl rfl (by kernel_rfl) (fun _ _ _ h => h) (Or.inl ⟨by rfl, ?_⟩) ?_ ?_
    rotate_left
    · intro w'
      go_simp
      with_reducible rfl
    rotate_left
    · simp only [Act.put, List.setIfInBounds_toArray, List.set_cons_zero, List.set_cons_succ, i64_w, i32_w]; rfl
    refine pure_ (i := 6) (N := (some 10)) (v := ?_) (a' := ?_) #[true, true, true, false, true, true, true, false, false, false] rfl rfl (by kernel_rfl) (fun _ _ _ h => h) (Or.inl ⟨by rfl, ?_⟩) ?_ ?_
    rotate_left
    · intro w'
      go_simp
      with_reducible rfl
    rotate_left
    · simp only [Act.put, List.setIfInBounds_toArray, List.set_cons_zero, List.set_cons_succ, i64_w, i32_w]; rfl
    refine take_ (i := 3) (N := (some 7)) (v := ?_) (a' := ?_) #[true, true, true, true, true, true, true, false, false, false] rfl rfl (by kernel_rfl) (fun _ _ _ h => h) (Or.inl ⟨by rfl, ?_⟩) hHeld ?_ ?_
    rotate_left
    · intro w' hSw
      (try dsimp only at hSw)
      go_simp
      with_reducible rfl
    rotate_left
    · simp only [Act.put, List.setIfInBounds_toArray, List.set_cons_zero, List.set_cons_succ, i64_w, i32_w]; rfl
    refine take_ (i := 7) (N := (some 11)) (v := ?_) (a' := ?_) #[true, true, true, true, true, true, true, true, false, false] rfl rfl (by kernel_rfl) (fun _ _ _ h => h) (Or.inl ⟨by rfl, ?_⟩) hHeld ?_ ?_
    rotate_left
    · intro w' hSw
      (try dsimp only at hSw)
      go_simp
      with_reducible rfl
    rotate_left
    · simp only [Act.put, List.setIfInBounds_toArray, List.set_cons_zero, List.set_cons_succ, i64_w, i32_w]; rfl
    refine pure_ (i := 8) (N := (some 12)) (v := ?_) (a' := ?_) #[true, true, true, true, true, true, true, true, true, false] rfl rfl (by kernel_rfl) (fun _ _ _ h => h) (Or.inl ⟨by rfl, ?_⟩) ?_ ?_
    rotate_left
    · intro w'
      go_simp
      with_reducible rfl
    rotate_left
    · simp only [Act.put, List.setIfInBounds_toArray, List.set_cons_zero, List.set_cons_succ, i64_w, i32_w]; rfl
    refine pure_ (i := 9) (N := (some 13)) (v := ?_) (a' := ?_) #[true, true, true, true, true, true, true, true, true, true] rfl rfl (by kernel_rfl) (fun _ _ _ h => h) (Or.inl ⟨by rfl, ?_⟩) ?_ ?_
    rotate_left
    · intro w'
      go_simp
      with_reducible rfl
    rotate_left
    · simp only [Act.put, List.setIfInBounds_toArray, List.set_cons_zero, List.set_cons_succ, i64_w, i32_w]; rfl
    refine done_ (by kernel_rfl) ?_
    go_wp2_with fail
    have hS2 : SrcB (w.drew) g A n c k sd := hS
    have hP : ∀ u, SrcB ((((w.drew).setCell ⟨g, 1, none⟩ (.int .i64 ((k : Int) + 1))).setCell ⟨g, 2, none⟩ (.int .u64 u)).drew) g A n c (k + 1) u := fun u => blk_put (blk_put hS2 1 _ rfl) 2 _ rfl
    have hG : ∀ u, w.grownBy ((((w.drew).setCell ⟨g, 1, none⟩ (.int .i64 ((k : Int) + 1))).setCell ⟨g, 2, none⟩ (.int .u64 u)).drew) (some g) := fun u => Go.World.grownBy.trans (⟨rfl, rfl, rfl, Nat.le_refl _, fun _ _ _ => rfl⟩ : w.grownBy (w.drew) (some g)) (Go.World.grownBy.trans (grownBy_set (w.drew) g 1 _) ((fun h => ⟨h.os, h.tape, h.output, h.size, h.block⟩ : ∀ {a b : World}, a.grownBy b (some g) → a.grownBy b.drew (some g)) (grownBy_set _ g 2 _)))
    go_wp2_with fail
    refine start_ (n := 10) (S := fun w' => w'.cell? ⟨g, 0, none⟩ = some (.slice A n c) ∧ w'.cell? ⟨g, 1, none⟩ = some (.int .i64 ((k : Int) + 1))) (ds := []) #[false, false, false, false, false, false, false, false, false, false] (by kernel_rfl) rfl rfl ⟨(hP _).c0, (hP _).c1⟩ (fun hHeld => ?_)
    refine pure_ (i := 0) (N := (some 44)) (v := ?_) (a' := ?_) #[true, false, false, false, false, false, false, false, false, false] rfl rfl (by kernel_rfl) (fun _ _ _ h => h) (Or.inl ⟨by rfl, ?_⟩) ?_ ?_
    rotate_left
    · intro w'
      go_simp
      with_reducible rfl
    rotate_left
    · simp only [Act.put, List.setIfInBounds_toArray, List.set_cons_zero, List.set_cons_succ, i64_w, i32_w]; rfl
    refine pure_ (i := 1) (N := (some 45)) (v := ?_) (a' := ?_) #[true, true, false, false, false, false, false, false, false, false] rfl rfl (by kernel_rfl) (fun _ _ _ h => h) (Or.inl ⟨by rfl, ?_⟩) ?_ ?_
    rotate_left
    · intro w'
      go_simp
      with_reducible rfl
    rotate_left
    · simp only [Act.put, List.setIfInBounds_toArray, List.set_cons_zero, List.set_cons_succ, i64_w, i32_w]; rfl
    refine pure_ (i := 2) (N := (some 46)) (v := ?_) (a' := ?_) #[true, true, true, false, false, false, false, false, false, false] rfl rfl (by kernel_rfl) (fun _ _ _ h => h) (Or.inl ⟨by rfl, ?_⟩) ?_ ?_
    rotate_left
    · intro w'
      go_simp
      with_reducible rfl
    rotate_left
    · simp only [Act.put, List.setIfInBounds_toArray, List.set_cons_zero, List.set_cons_succ, i64_w, i32_w]; rfl
    refine pure_ (i := 4) (N := (some 48)) (v := ?_) (a' := ?_) #[true, true, true, false, true, false, false, false, false, false] rfl rfl (by kernel_rfl) (fun _ _ _ h => h) (Or.inl ⟨by rfl, ?_⟩) ?_ ?_
    rotate_left
    · intro w'
      go_simp
      with_reducible rfl
    rotate_left
    · simp only [Act.put, List.setIfInBounds_toArray, List.set_cons_zero, List.set_cons_succ, i64_w, i32_w]; rfl
    refine pure_ (i := 5) (N := (some 49)) (v := ?_) (a' := ?_) #[true, true, true, false, true, true, false, false, false, false] rfl rfl (by kernel_rfl) (fun _ _ _ h => h) (Or.inl ⟨by rfl, ?_⟩) ?_ ?_
    rotate_left
    · intro w'
      go_simp
      with_reducible rfl
    rotate_left
    · simp only [Act.put, List.setIfInBounds_toArray, List.set_cons_zero, List.set_cons_succ, i64_w, i32_w]; rfl
    refine pure_ (i := 6) (N := (some 50)) (v := ?_) (a' := ?_) #[true, true, true, false, true, true, true, false, false, false] rfl rfl (by kernel_rfl) (fun _ _ _ h => h) (Or.inl ⟨by rfl, ?_⟩) ?_ ?_
    rotate_left
    · intro w'
      go_simp
      with_reducible rfl
    rotate_left
    · simp only [Act.put, List.setIfInBounds_toArray, List.set_cons_zero, List.set_cons_succ, i64_w, i32_w]; rfl
    refine take_ (i := 3) (N := (some 47)) (v := ?_) (a' := ?_) #[true, true, true, true, true, true, true, false, false, false] rfl rfl (by kernel_rfl) (fun _ _ _ h => h) (Or.inl ⟨by rfl, ?_⟩) hHeld ?_ ?_
    rotate_left
    · intro w' hSw
      (try dsimp only at hSw)
      go_simp
      with_reducible rfl
    rotate_left
    · simp only [Act.put, List.setIfInBounds_toArray, List.set_cons_zero, List.set_cons_succ, i64_w, i32_w]; rfl
    refine take_ (i := 7) (N := (some 51)) (v := ?_) (a' := ?_) #[true, true, true, true, true, true, true, true, false, false] rfl rfl (by kernel_rfl) (fun _ _ _ h => h) (Or.inl ⟨by rfl, ?_⟩) hHeld ?_ ?_
    rotate_left
    · intro w' hSw
      (try dsimp only at hSw)
      go_simp
      with_reducible rfl
    rotate_left
    · simp only [Act.put, List.setIfInBounds_toArray, List.set_cons_zero, List.set_cons_succ, i64_w, i32_w]; rfl
    refine pure_ (i := 8) (N := (some 52)) (v := ?_) (a' := ?_) #[true, true, true, true, true, true, true, true, true, false] rfl rfl (by kernel_rfl) (fun _ _ _ h => h) (Or.inl ⟨by rfl, ?_⟩) ?_ ?_
    rotate_left
    · intro w'
      go_simp
      with_reducible rfl
    rotate_left
    · simp only [Act.put, List.setIfInBounds_toArray, List.set_cons_zero, List.set_cons_succ, i64_w, i32_w]; rfl
    refine pure_ (i := 9) (N := (some 53)) (v := ?_) (a' := ?_) #[true, true, true, true, true, true, true, true, true, true] rfl rfl (by kernel_rfl) (fun _ _ _ h => h) (Or.inl ⟨by rfl, ?_⟩) ?_ ?_
    rotate_left
    · intro w'
      go_simp
      with_reducible rfl
    rotate_left
    · simp only [Act.put, List.setIfInBounds_toArray, List.set_cons_zero, List.set_cons_succ, i64_w, i32_w]; rfl
    refine done_ (by kernel_rfl) ?_
    have c2' := fun u => (hP u).c2
    go_wp2_with fail
    go_ret
    obtain ⟨x, hx, e⟩ := seed_byte (IntKind.u64.wrap (IntKind.u64.wrap (sd * 6364136223846793005)) + 1442695040888963407)
    refine ⟨x, _, ?_, hx, hP _, hG _⟩
    rw [← e]
    rfl

theorem src_pick (g : Nat) (A : Option Addr) (n c k : Nat) (sd : Int) (w : World) (hn : n ≤ 48) (hk : k ≤ 1000) (hS : SrcB w g A n c k sd) (hB : Byt w A n) :
    Calls Try.prog 66 #[.pointer (some ⟨g, 0, none⟩), .int .i64 9] w fun E w' => ∃ (m : Nat) (y : Int) (sd' : Int), E = .returned (.int .i64 y) ∧ Hid (y = (m : Int)) ∧ m < 9 ∧ SrcB w' g A n c (k + 1) sd' ∧ w.grownBy w' (some g) := by
  go_enter Try.func66, Try.ntmps66
  go_wp2_with (first
    | (go_at_call 97; refine (src_next g A n c k sd w hn hk hS hB).mono ?_; rintro E w1 ⟨x, sd1, rfl, hx, hs, hg⟩; obtain ⟨xi, hxi⟩ : ∃ xi : Int, xi = (x : Int) := ⟨_, rfl⟩; rw [← hxi]; have HXI := Lib.hid hxi; have x0 : 0 ≤ xi := (by omega); have k4 : Int.tmod xi 9 = ((x % 9 : Nat) : Int) := (by rw [hxi]; rfl); obtain ⟨y, hy⟩ : ∃ y : Int, y = ((x % 9 : Nat) : Int) := ⟨_, rfl⟩; rw [← hy] at k4; have HY := Lib.hid hy; clear hxi hy)
    | fail)
  go_ret
  exact ⟨x % 9, y, sd1, rfl, HY, Nat.mod_lt _ (by omega), hs, hg⟩

theorem src_from (A : Option Addr) (n c : Nat) (w : World) :
    Calls Try.prog 64 #[.slice A n c] w fun E w' => ∃ gs, E = .returned (.pointer (some ⟨gs, 0, none⟩)) ∧ w.heap.size ≤ gs ∧ SrcB w' gs A n c 0 0 ∧ Below w.heap.size w w' := by
  go_enter Try.func64, Try.ntmps64
  go_wp2_with fail
  go_ret
  exact ⟨_, rfl, Nat.le_refl _, heap_alloc_new _ _, below_alloc (Below.refl _ _) _⟩

end Go.Proofs.Ytnibobbfepdeiaa
namespace Go.Proofs.Ytnibobbfepdeiaa
open Fl Go.RowKit Go.Proofs.YtnibobbfepdeiaaW.PrintWords Go.Proofs.YtnibobbfepdeiaaW.PrintLast Go.Proofs.YtnibobbfepdeiaaW.PrintMore Go.Proofs.Ytnibobbfepdeiaa.PMesh Msh
set_option linter.unusedVariables false
set_option linter.unusedSimpArgs false

/-- A move by eighths. -/
def eighth (m : Nat) : Nat := canB (bin .quo .f32 (val .f32 (floatOfInt .f32 ((m : Int) - 4))) (val .f32 1090519040))
/-- A place near another one. -/
def Near (y x : S59) : Prop := ∃ a b c, a < 9 ∧ b < 9 ∧ c < 9 ∧ simV y (moveV (eighth a) (eighth b) (eighth c) x)
theorem eighth_val {p m : Nat} {z : Int} (hz : z = (m : Int) - 4) (hp : FR .f32 p (bin .quo .f32 (val .f32 (floatOfInt .f32 z)) (val .f32 1090519040))) : val .f32 p = val .f32 (eighth m) := by
  subst hz
  exact (simF_iff.1 (canB_sim hp)).2.2
theorem near_of {x : S59} {p q r m0 m1 m2 a b c : Nat} (h0 : m0 < 9) (h1 : m1 < 9) (h2 : m2 < 9) (e0 : val .f32 p = val .f32 (eighth m0)) (e1 : val .f32 q = val .f32 (eighth m1)) (e2 : val .f32 r = val .f32 (eighth m2))
    (ha : FR .f32 a (bin .add .f32 (val .f32 x.f0) (val .f32 p))) (hb : FR .f32 b (bin .add .f32 (val .f32 x.f1) (val .f32 q))) (hc : FR .f32 c (bin .add .f32 (val .f32 x.f2) (val .f32 r))) : Near ⟨a, b, c⟩ x := by
  rw [e0] at ha; rw [e1] at hb; rw [e2] at hc
  exact ⟨m0, m1, m2, h0, h1, h2, canB_sim ha, canB_sim hb, canB_sim hc⟩
/-- The first i places are moved. -/
def NearP (Q l : List S59) (i : Nat) : Prop := l.length = Q.length ∧ (∀ j (h : j < l.length) (h' : j < Q.length), j < i → Near l[j] Q[j]) ∧ ∀ j (h : j < l.length) (h' : j < Q.length), i ≤ j → l[j] = Q[j]
theorem NearP.zero (Q : List S59) : NearP Q Q 0 := ⟨rfl, fun j _ _ h => absurd h (Nat.not_lt_zero _), fun _ _ _ _ => rfl⟩
theorem NearP.at_ {Q l : List S59} {i : Nat} (h : NearP Q l i) (hi : i < Q.length) : l.getD i ⟨0, 0, 0⟩ = Q[i] := by
  have hl : i < l.length := by rw [h.1]; exact hi
  rw [List.getD_eq_getElem?_getD, List.getElem?_eq_getElem hl]
  exact h.2.2 i hl hi (Nat.le_refl _)
theorem NearP.set {Q l : List S59} {i : Nat} {y : S59} (h : NearP Q l i) (hi : i < Q.length) (hy : Near y Q[i]) : NearP Q (l.set i y) (i + 1) := by
  refine ⟨by rw [List.length_set]; exact h.1, fun j hj hj' hlt => ?_, fun j hj hj' hle => ?_⟩
  · by_cases he : i = j
    · subst he; rw [List.getElem_set_self]; exact hy
    · rw [List.getElem_set_ne he]; exact h.2.1 j _ hj' (by omega)
  · rw [List.getElem_set_ne (by omega)]; exact h.2.2 j _ hj' (by omega)

/-- What stands while places are moved: the answer's variable, the source, the mesh's variable, its rows. -/
def MovI (ok : Nat → Prop) (w W : World) (rb g gs : Nat) (Ab : Option Addr) (n cn k : Nat) (sd : Int) (uq ut : Value) (l : List S59) (T : List (List Int)) : Prop :=
  Below w.heap.size w W ∧ BoxAt W rb 30 (.slice none 0 0) (.slice none 0 0) ∧ SrcB W gs Ab n cn k sd ∧ BoxAt W g 30 uq ut ∧ Kd.R k59 59 W w.heap.size ok uq l ∧ Kd.S (Kd.slice 2 (Kd.int .i64)) 34 W w.heap.size (fun _ => True) ut T
section
variable {ok : Nat → Prop} {w W W' : World} {rb g gs gv : Nat} {Ab : Option Addr} {n cn k k' : Nat} {sd sd' : Int} {uq ut : Value} {l : List S59} {T : List (List Int)}
theorem MovI.below (h : MovI ok w W rb g gs Ab n cn k sd uq ut l T) (hb : Below W.heap.size W W') : MovI ok w W' rb g gs Ab n cn k sd uq ut l T :=
  ⟨below_step h.1 hb, h.2.1.below hb, h.2.2.1.below hb, h.2.2.2.1.below hb, Kd.R_below h.2.2.2.2.1 hb, Kd.S_below h.2.2.2.2.2 hb⟩
theorem MovI.mono (h : MovI ok w W rb g gs Ab n cn k sd uq ut l T) : MovI (fun _ => True) w W rb g gs Ab n cn k sd uq ut l T :=
  ⟨h.1, h.2.1, h.2.2.1, h.2.2.2.1, Kd.R_mono h.2.2.2.2.1 (fun _ _ => trivial), h.2.2.2.2.2⟩
theorem MovI.pick (h : MovI ok w W rb g gs Ab n cn k sd uq ut l T) (hs : SrcB W' gs Ab n cn k' sd') (hg : W.grownBy W' (some gs)) (o1 : w.heap.size ≤ gs) (o2 : rb ≠ gs) (o3 : g ≠ gs) : MovI ok w W' rb g gs Ab n cn k' sd' uq ut l T :=
  ⟨Below.grown h.1 hg (below_size h.1) (fun k hk => by cases hk; exact o1), blk_grown h.2.1 hg (fun e => o2 (Option.some.inj e)), hs, blk_grown h.2.2.2.1 hg (fun e => o3 (Option.some.inj e)),
    Kd.R_over' (v := .slice (some ⟨gs, 0, none⟩) 0 0) h.2.2.2.2.1 (fun k hk => by cases hk; exact ⟨_, h.2.2.1⟩) (by decide) hg,
    Kd.S_over' (v := .slice (some ⟨gs, 0, none⟩) 0 0) h.2.2.2.2.2 (fun k hk => by cases hk; exact ⟨_, h.2.2.1⟩) (by decide) hg⟩
theorem MovI.newV (h : MovI ok w W rb g gs Ab n cn k sd uq ut l T) (p q r : Nat) :
    MovI (fun k => k ≠ W.heap.size) w (W.alloc (.cells #[.float .f32 p, .float .f32 q, .float .f32 r] 59)) rb g gs Ab n cn k sd uq ut l T ∧ BoxT (W.alloc (.cells #[.float .f32 p, .float .f32 q, .float .f32 r] 59)) W.heap.size 59 p q r := by
  have h' : MovI (fun k => k ≠ W.heap.size) w W rb g gs Ab n cn k sd uq ut l T := ⟨h.1, h.2.1, h.2.2.1, h.2.2.2.1, Kd.R_mono (Kd.R_elderB h.2.2.2.2.1 W.heap.size (Nat.le_refl _)) (fun _ hk => hk.2), h.2.2.2.2.2⟩
  exact ⟨h'.below (below_alloc (Below.refl _ _) _), BoxT.new _ _ _ _ _⟩
theorem MovI.setV {p q r : Nat} (h : MovI (fun k => k ≠ gv) w W rb g gs Ab n cn k sd uq ut l T) (hv : BoxT W gv 59 p q r) (j : Nat) (x : Value) (o1 : w.heap.size ≤ gv) (o2 : rb ≠ gv) (o3 : g ≠ gv) (o4 : gs ≠ gv) :
    MovI (fun k => k ≠ gv) w (W.setCell ⟨gv, j, none⟩ x) rb g gs Ab n cn k sd uq ut l T :=
  ⟨below_set h.1 o1, blk_far h.2.1 o2 _, blk_far h.2.2.1 o4 _, blk_far h.2.2.2.1 o3 _, Kd.R_grown h.2.2.2.2.1 (grownBy_set W gv j x) (fun k hk e => hk (Option.some.inj e)), Kd.S_set h.2.2.2.2.2 hv (by decide) j x⟩
end

end Go.Proofs.Ytnibobbfepdeiaa
namespace Go.Proofs.Ytnibobbfepdeiaa.Fl
open Ieee
set_option linter.unusedVariables false

/-- The value of a finite word, in units of the least place. -/
def iv (f : Format) (b : Nat) : Int := sg (sgn f b) (mg f (rung f b))

/-- A word next to the exact value v / 2^B (in units). -/
structure Near (f : Format) (r : Nat) (v : Int) (B : Nat) : Prop where
  ex : ∃ r0 L, rung f r = min r0 f.infRung ∧ (∀ s, mg f s * 2 ^ B ≤ v.natAbs → s ≤ r0) ∧ (∀ s, v.natAbs ≤ mg f s * 2 ^ B → r0 ≤ s) ∧
    (L = 0 ∨ 2 ^ (f.fractionBits + L) * 2 ^ B ≤ v.natAbs) ∧ 2 * v.natAbs ≤ 2 * (mg f r0 * 2 ^ B) + 2 ^ L * 2 ^ B ∧ 2 * (mg f r0 * 2 ^ B) ≤ 2 * v.natAbs + 2 ^ L * 2 ^ B
  sign : v ≠ 0 → sgn f r = decide (v < 0)

theorem Near.le {f : Format} {r : Nat} {v : Int} {B : Nat} (h : Near f r v B) {s : Nat} (hs : v.natAbs ≤ mg f s * 2 ^ B) : rung f r ≤ s := by
  obtain ⟨r0, L, hr, _, h2, _⟩ := h.ex
  have := h2 s hs
  omega

theorem Near.ge {f : Format} {r : Nat} {v : Int} {B : Nat} (h : Near f r v B) {s : Nat} (hsi : s ≤ f.infRung) (hs : mg f s * 2 ^ B ≤ v.natAbs) : s ≤ rung f r := by
  obtain ⟨r0, L, hr, h1, _, _⟩ := h.ex
  have := h1 s hs
  omega

theorem Near.eq {f : Format} {r : Nat} {v : Int} {B : Nat} (h : Near f r v B) {s : Nat} (hsi : s ≤ f.infRung) (hs : mg f s * 2 ^ B = v.natAbs) : rung f r = s := by
  have a := h.le (s := s) (by omega)
  have b := h.ge hsi (by omega)
  omega

/-- What 'nearest' gives, as a word next to the value. -/
theorem near_nearest (f : Format) (neg : Bool) (mag : Nat) (p : Int) (A B : Nat) (hp : p + B = f.leastPlace + A) (v : Int) (hv : v.natAbs = mag * 2 ^ A) (hs : v ≠ 0 → neg = decide (v < 0)) :
    Near f (f.nearest neg mag p) v B := by
  obtain ⟨r0, L, hne, h1, h2, h3, h4, h5⟩ := nearest_spec f neg mag p A B hp
  refine ⟨⟨r0, L, ?_, ?_, ?_, ?_, ?_, ?_⟩, ?_⟩
  · rw [hne]; exact rung_word f neg (Nat.min_le_right _ _)
  · rw [hv]; exact h1
  · rw [hv]; exact h2
  · rw [hv]; exact h3
  · rw [hv]; exact h4
  · rw [hv]; exact h5
  · intro h; rw [hne, sgn_word f neg (Nat.min_le_right _ _)]; exact hs h

theorem sg_natAbs (s : Bool) (m : Nat) : (sg s m).natAbs = m := by unfold sg; cases s <;> simp

theorem sg_sign (s : Bool) (M : Nat) : sg s M ≠ 0 → s = decide (sg s M < 0) := by
  unfold sg
  cases s
  · intro _; simp
  · intro h; simp at h ⊢; omega

theorem opposite_fin {f : Format} {b : Nat} {m : Nat} {p : Int} (h : f.read b = .number (sgn f b) m p) : (f.read b).opposite = .number (!sgn f b) m p := by rw [h]; rfl

theorem sum_num (f : Format) (s t : Bool) (m n a b : Nat) : (Datum.number s m (f.leastPlace + a)).sum (.number t n (f.leastPlace + b)) =
    some (.number (if signed s m (a - min a b) + signed t n (b - min a b) = 0 then s && t else decide (signed s m (a - min a b) + signed t n (b - min a b) < 0)) (signed s m (a - min a b) + signed t n (b - min a b)).natAbs (f.leastPlace + (min a b : Nat))) := by
  simp only [Datum.sum]
  have e0 : min (f.leastPlace + (a : Int)) (f.leastPlace + (b : Int)) = f.leastPlace + (min a b : Nat) := by omega
  rw [e0]
  have e1 : (f.leastPlace + (a : Int) - (f.leastPlace + (min a b : Nat))).toNat = a - min a b := by omega
  have e2 : (f.leastPlace + (b : Int) - (f.leastPlace + (min a b : Nat))).toNat = b - min a b := by omega
  rw [e1, e2]

/-- The sum of two finite words of signs s, t and magnitudes x, y. -/
theorem near_sum (f : Format) (s t : Bool) (m n a b : Nat) (v : Int) (hv : v = sg s (m * 2 ^ a) + sg t (n * 2 ^ b)) :
    ∃ d, (Datum.number s m (f.leastPlace + a)).sum (.number t n (f.leastPlace + b)) = some d ∧ Near f (f.write d) v 0 := by
  refine ⟨_, sum_num f s t m n a b, ?_⟩
  have hsc : signed s m (a - min a b) + signed t n (b - min a b) = sg s (m * 2 ^ (a - min a b)) + sg t (n * 2 ^ (b - min a b)) := by rw [signed_sg, signed_sg]
  have hmul : (signed s m (a - min a b) + signed t n (b - min a b)) * ((2 ^ min a b : Nat) : Int) = v := by
    rw [hsc, Int.add_mul, ← sg_mul, ← sg_mul, Nat.mul_assoc, Nat.mul_assoc, ← Nat.pow_add, ← Nat.pow_add, show a - min a b + min a b = a by omega, show b - min a b + min a b = b by omega, hv]
  have hpos : (0 : Int) < ((2 ^ min a b : Nat) : Int) := by exact_mod_cast Nat.two_pow_pos _
  generalize signed s m (a - min a b) + signed t n (b - min a b) = T at *
  show Near f (f.nearest _ _ _) v 0
  refine near_nearest f _ _ _ (min a b) 0 (by omega) v ?_ ?_
  · rw [← hmul, Int.natAbs_mul]; rfl
  · intro hv0
    have hT : T ≠ 0 := by
      intro h; rw [h, Int.zero_mul] at hmul; exact hv0 hmul.symm
    rw [if_neg hT, decide_eq_decide]
    constructor
    · intro h
      have := Int.mul_neg_of_neg_of_pos h hpos
      omega
    · intro h
      refine Int.not_le.1 fun h' => ?_
      have := Int.mul_nonneg h' (Int.le_of_lt hpos)
      omega

theorem near_add (k : FloatKind) {x y : Nat} (hx : rung k.format x < k.format.infRung) (hy : rung k.format y < k.format.infRung) :
    ∃ r, bin .add k (some x) (some y) = some r ∧ Near k.format r (iv k.format x + iv k.format y) 0 := by
  obtain ⟨m, a, e1, e1'⟩ := read_fin k.format hx
  obtain ⟨n, b, e2, e2'⟩ := read_fin k.format hy
  obtain ⟨d, hd, hn⟩ := near_sum k.format (sgn k.format x) (sgn k.format y) m n a b (iv k.format x + iv k.format y) (by unfold iv; rw [e1', e2'])
  refine ⟨k.format.write d, ?_, hn⟩
  show (((k.format.read x).sum (k.format.read y)).map k.format.write) = _
  rw [e1, e2, hd]; rfl

theorem near_sub (k : FloatKind) {x y : Nat} (hx : rung k.format x < k.format.infRung) (hy : rung k.format y < k.format.infRung) :
    ∃ r, bin .sub k (some x) (some y) = some r ∧ Near k.format r (iv k.format x - iv k.format y) 0 := by
  obtain ⟨m, a, e1, e1'⟩ := read_fin k.format hx
  obtain ⟨n, b, e2, e2'⟩ := read_fin k.format hy
  obtain ⟨d, hd, hn⟩ := near_sum k.format (sgn k.format x) (!sgn k.format y) m n a b (iv k.format x - iv k.format y) (by
    unfold iv; rw [e1', e2']
    have : sg (!sgn k.format y) (mg k.format (rung k.format y)) = - sg (sgn k.format y) (mg k.format (rung k.format y)) := by unfold sg; cases sgn k.format y <;> simp
    rw [this]; omega)
  refine ⟨k.format.write d, ?_, hn⟩
  show (((k.format.read x).sum (k.format.read y).opposite).map k.format.write) = _
  rw [e1, opposite_fin e2, hd]; rfl

/-- How far the least place lies below one. -/
@[irreducible] def under (f : Format) : Nat := (-f.leastPlace).toNat

theorem under_eq (k : FloatKind) : k.format.leastPlace = -(under k.format : Int) := by cases k <;> decide +kernel

theorem under_double : under double = 1074 := by decide +kernel

theorem near_mul (k : FloatKind) {x y : Nat} (hx : rung k.format x < k.format.infRung) (hy : rung k.format y < k.format.infRung) :
    ∃ r, bin .mul k (some x) (some y) = some r ∧ Near k.format r (iv k.format x * iv k.format y) (under k.format) := by
  obtain ⟨m, a, e1, e1'⟩ := read_fin k.format hx
  obtain ⟨n, b, e2, e2'⟩ := read_fin k.format hy
  have hl := under_eq k
  refine ⟨k.format.nearest (sgn k.format x ^^ sgn k.format y) (m * n) (k.format.leastPlace + a + (k.format.leastPlace + b)), ?_, ?_⟩
  · show (((k.format.read x).product (k.format.read y)).map k.format.write) = _
    rw [e1, e2]; rfl
  · refine near_nearest _ _ _ _ (a + b) _ (by omega) _ ?_ ?_
    · rw [Int.natAbs_mul]
      unfold iv
      rw [sg_natAbs, sg_natAbs, ← e1', ← e2', Nat.pow_add]
      simp only [Nat.mul_assoc, Nat.mul_left_comm]
    · intro h
      unfold iv sg at h ⊢
      generalize mg k.format (rung k.format x) = X at *
      generalize mg k.format (rung k.format y) = Y at *
      have hX : X ≠ 0 := by intro h0; apply h; rw [h0]; cases sgn k.format x <;> simp
      have hY : Y ≠ 0 := by intro h0; apply h; rw [h0]; cases sgn k.format y <;> simp
      have hpos : (0 : Int) < (X : Int) * (Y : Int) := Int.mul_pos (by omega) (by omega)
      cases sgn k.format x <;> cases sgn k.format y <;> simp [Int.neg_mul, Int.mul_neg] <;> omega

/-- A quotient: its rung is at most s where twice the exact one is at most s's magnitude. -/
theorem quo_le (k : FloatKind) {x y : Nat} (hx : rung k.format x < k.format.infRung) (hy : rung k.format y < k.format.infRung) (hy0 : 0 < rung k.format y) :
    ∃ r, bin .quo k (some x) (some y) = some r ∧ ∀ s, 2 * mg k.format (rung k.format x) * 2 ^ under k.format ≤ mg k.format s * mg k.format (rung k.format y) → rung k.format r ≤ s := by
  obtain ⟨m, a, e1, e1'⟩ := read_fin k.format hx
  obtain ⟨n, b, e2, e2'⟩ := read_fin k.format hy
  have hU := under_eq k
  have hn : n ≠ 0 := by
    intro h; rw [h, Nat.zero_mul] at e2'; have := mg_pos k.format hy0; omega
  let more := k.format.fractionBits + 2 + n.log2 - m.log2
  let D := m <<< more
  refine ⟨k.format.nearest (sgn k.format x ^^ sgn k.format y) (2 * (D / n) + (D % n != 0).toNat) (k.format.leastPlace + a - (k.format.leastPlace + b) - more - 1), ?_, ?_⟩
  · show (((k.format.read x).quotient (k.format.fractionBits + 2) (k.format.read y)).map k.format.write) = _
    rw [e1, e2]
    simp only [Datum.quotient]
    rw [if_neg hn]; rfl
  · intro s hs
    have hnear := near_nearest k.format (sgn k.format x ^^ sgn k.format y) (2 * (D / n) + (D % n != 0).toNat) (k.format.leastPlace + a - (k.format.leastPlace + b) - more - 1) (a + under k.format) (b + more + 1) (by omega) (sg (sgn k.format x ^^ sgn k.format y) ((2 * (D / n) + (D % n != 0).toNat) * 2 ^ (a + under k.format))) (sg_natAbs _ _) (sg_sign _ _)
    refine hnear.le ?_
    rw [sg_natAbs]
    have hDe : D = m * 2 ^ more := Nat.shiftLeft_eq _ _
    have hmag : (2 * (D / n) + (D % n != 0).toNat) * n ≤ 4 * D := by
      have hdm := Nat.div_add_mod D n
      have hc : (D % n != 0).toNat ≤ 1 := Bool.toNat_le _
      by_cases hm : m = 0
      · have hD0 : D = 0 := by rw [hDe, hm, Nat.zero_mul]
        rw [hD0]; simp
      · have hnD : n ≤ D := by
          have h1 : n < 2 ^ (n.log2 + 1) := Nat.lt_log2_self
          have h2 : 2 ^ m.log2 ≤ m := Nat.log2_self_le hm
          have h3 : 2 ^ m.log2 * 2 ^ more ≤ m * 2 ^ more := Nat.mul_le_mul_right _ h2
          rw [← Nat.pow_add] at h3
          have h4 : 2 ^ (n.log2 + 1) ≤ 2 ^ (m.log2 + more) := Nat.pow_le_pow_right (by omega) (by show n.log2 + 1 ≤ m.log2 + (k.format.fractionBits + 2 + n.log2 - m.log2); omega)
          rw [hDe]; omega
        have h5 : (2 * (D / n) + (D % n != 0).toNat) * n = 2 * (n * (D / n)) + (D % n != 0).toNat * n := by
          rw [Nat.add_mul, Nat.mul_assoc, Nat.mul_comm (D / n) n]
        have h6 : (D % n != 0).toNat * n ≤ 1 * n := Nat.mul_le_mul_right _ hc
        omega
    have hnpos : 0 < n := by omega
    refine mul_le_cancel hnpos ?_
    have h1 : (2 * (D / n) + (D % n != 0).toNat) * 2 ^ (a + under k.format) * n ≤ 4 * (m * 2 ^ more) * 2 ^ (a + under k.format) := by
      rw [Nat.mul_right_comm, ← hDe]; exact Nat.mul_le_mul_right _ hmag
    have h2 : 4 * (m * 2 ^ more) * 2 ^ (a + under k.format) = 2 * (2 * (m * 2 ^ a) * 2 ^ under k.format) * 2 ^ more := by
      rw [Nat.pow_add, show (4 : Nat) = 2 * 2 from rfl]; ac_rfl
    have h3 : 2 * (2 * (m * 2 ^ a) * 2 ^ under k.format) * 2 ^ more ≤ 2 * (mg k.format s * (n * 2 ^ b)) * 2 ^ more := by
      refine Nat.mul_le_mul_right _ (Nat.mul_le_mul_left _ ?_)
      rw [e1', e2']; exact hs
    have h4 : 2 * (mg k.format s * (n * 2 ^ b)) * 2 ^ more = mg k.format s * 2 ^ (b + more + 1) * n := by
      rw [Nat.pow_succ, Nat.pow_add]; ac_rfl
    omega

/-! ### The square root -/

theorem rootFrom_sq (n : Nat) : ∀ (todo root : Nat), root * root ≤ n → Datum.rootFrom n todo root * Datum.rootFrom n todo root ≤ n := by
  intro todo
  induction todo with
  | zero => intro root h; exact h
  | succ todo ih =>
    intro root h
    unfold Datum.rootFrom
    dsimp only
    split
    · rename_i h'; exact ih _ h'
    · exact ih _ h

/-- The root of a value. -/
def sqrtV (X : Option Nat) : Option Nat := X.bind double.sqrt

theorem sqrt_nn {x r : Nat} (h : double.sqrt x = some r) : val .f64 r = some r := by
  unfold Format.sqrt at h
  refine map_write_val .f64 (o := (double.read x).root (double.fractionBits + 2)) ?_ h
  intro d hd
  cases hr : double.read x <;> rw [hr] at hd <;> simp only [Datum.root] at hd
  · split at hd
    · cases hd; rfl
    · split at hd
      · cases hd
      · cases hd; rfl
  · split at hd
    · cases hd
    · cases hd; rfl
  · cases hd

theorem sqrt_nan {x : Nat} (h : val .f64 x = none) : double.sqrt x = none := by
  obtain ⟨s, t, hr⟩ := nan_of_val h
  have hr' : double.read x = .nan s t := hr
  unfold Format.sqrt
  rw [hr']; rfl

theorem run_sqrt {P : Program} (x : Nat) (w : World) : ∃ r n, (Extern.MathSqrt.sqrt #[.float .f64 x]).run P w = .ok (.float .f64 r) (w.drewN n) ∧ FR .f64 r (sqrtV (Fl.val .f64 x)) := by
  have hb : sqrtV (Fl.val .f64 x) = double.sqrt x := by
    rcases val_cases .f64 x with h | h
    · rw [h]; rfl
    · rw [h, sqrt_nan h]; rfl
  cases h : double.sqrt x with
  | some r =>
    refine ⟨r, 0, ?_, double.sqrt_lt h, ?_⟩
    · have h' : FloatKind.f64.format.sqrt x = some r := h
      have e : Extern.MathSqrt.sqrt #[.float .f64 x] = (match FloatKind.f64.format.sqrt x with | some r => pure (.float .f64 r) | none => do pure (.float .f64 (← choose (.nanBits .f64 x x)))) := rfl
      rw [e, h']; rfl
    · rw [hb, h]; exact sqrt_nn h
  | none =>
    have hn := nan_cut .f64 (.nanBits .f64 x x) (w.tape w.drawn (.nanBits .f64 x x)) (.inl ⟨x, x, rfl⟩)
    refine ⟨_, 1, ?_, hn.1, by rw [hb, h]; exact hn.2⟩
    have h' : FloatKind.f64.format.sqrt x = none := h
    have e : Extern.MathSqrt.sqrt #[.float .f64 x] = (match FloatKind.f64.format.sqrt x with | some r => pure (.float .f64 r) | none => do pure (.float .f64 (← choose (.nanBits .f64 x x)))) := rfl
    rw [e, h']
    simp [choose, Sem.run, Question.forced]; rfl

theorem pw1 (m u A : Nat) : 16 * (m * 2 ^ u) * (2 ^ A * 2 ^ A) = m * 2 ^ (4 + u + A + A) := by
  rw [Nat.pow_add, Nat.pow_add, Nat.pow_add, show (2 : Nat) ^ 4 = 16 from rfl]; ac_rfl

theorem pw2 (m a U B : Nat) : 4 * (m * 2 ^ a) * 2 ^ U * (2 ^ B * 2 ^ B) = m * 2 ^ (2 + a + U + B + B) := by
  rw [Nat.pow_add, Nat.pow_add, Nat.pow_add, Nat.pow_add, show (2 : Nat) ^ 2 = 4 from rfl]; ac_rfl

/-- A root: at most s where four times what is under it is at most the square of s's magnitude. -/
theorem root_le (U : Nat) (hL : double.leastPlace = -(U : Int)) {x : Nat} (hx : rung double x < double.infRung) {r : Nat} (hr : double.sqrt x = some r) :
    ∀ s, 4 * mg double (rung double x) * 2 ^ U ≤ mg double s * mg double s → rung double r ≤ s := by
  intro s hs
  obtain ⟨m, a, e1, e1'⟩ := read_fin double hx
  unfold Format.sqrt at hr
  rw [e1] at hr
  simp only [Datum.root] at hr
  by_cases hm : m = 0
  · rw [if_pos hm] at hr
    subst hm
    have : r = double.word (sgn double x) 0 := by
      have := Option.some.inj hr
      rw [← this]
      show double.nearest _ 0 _ = _
      unfold Format.nearest; rw [if_pos rfl]
    rw [this, rung_word double _ (Nat.zero_le _)]
    exact Nat.zero_le _
  · rw [if_neg hm] at hr
    by_cases hsn : sgn double x = true
    · rw [if_pos hsn] at hr; cases hr
    · rw [if_neg hsn] at hr
      let more0 := 2 * (double.fractionBits + 2) - m.log2
      let i : Int := double.leastPlace + a
      let more := more0 + ((i - more0) % 2).toNat
      let n := m <<< more
      let whole := Datum.rootFrom n (n.log2 / 2 + 1) 0
      have hr' : double.nearest false (2 * whole + (whole * whole != n).toNat) ((i - more) / 2 - 1) = r := Option.some.inj hr
      obtain ⟨h, hh⟩ : ∃ h : Int, i - more = 2 * h := ⟨(i - more) / 2, by
        have e : ((more : Nat) : Int) = (more0 : Int) + (i - more0) % 2 := by
          show (((more0 + ((i - more0) % 2).toNat : Nat)) : Int) = _
          omega
        rw [e]; omega⟩
      have hp : (i - more) / 2 - 1 = h - 1 := by rw [hh]; omega
      rw [hp] at hr'
      have hsq : whole * whole ≤ n := rootFrom_sq n _ 0 (Nat.zero_le _)
      have hne : n = m * 2 ^ more := Nat.shiftLeft_eq _ _
      -- the whole root is at least one
      have hmag : (2 * whole + (whole * whole != n).toNat) * (2 * whole + (whole * whole != n).toNat) ≤ 16 * n := by
        have hc : (whole * whole != n).toNat ≤ 1 := Bool.toNat_le _
        have hn1 : 1 ≤ n := by rw [hne]; exact Nat.mul_pos (by omega) (Nat.two_pow_pos _)
        by_cases hw : whole = 0
        · rw [hw]
          have : (2 * 0 + (0 * 0 != n).toNat) ≤ 1 := by rw [Nat.mul_zero, Nat.zero_add]; exact Bool.toNat_le _
          have h2 := Nat.mul_le_mul this this
          omega
        · have h1 : 2 * whole + (whole * whole != n).toNat ≤ 4 * whole := by omega
          have h2 := Nat.mul_le_mul h1 h1
          have h3 : 4 * whole * (4 * whole) = 16 * (whole * whole) := by rw [show (16 : Nat) = 4 * 4 from rfl]; ac_rfl
          omega
      generalize (2 * whole + (whole * whole != n).toNat) = M at *
      obtain ⟨A, B, hAB⟩ : ∃ A B : Nat, h - 1 + B = double.leastPlace + A := ⟨(h - 1 + U).toNat, (-(h - 1 + U)).toNat, by rw [hL]; omega⟩
      have hnear := near_nearest double false M (h - 1) A B hAB (sg false (M * 2 ^ A)) (sg_natAbs _ _) (sg_sign _ _)
      rw [hr'] at hnear
      refine hnear.le ?_
      rw [sg_natAbs]
      refine Nat.mul_self_le_mul_self_iff.1 ?_
      have k1 : M * 2 ^ A * (M * 2 ^ A) ≤ 16 * (m * 2 ^ more) * (2 ^ A * 2 ^ A) := by
        have : M * 2 ^ A * (M * 2 ^ A) = M * M * (2 ^ A * 2 ^ A) := by ac_rfl
        rw [this, ← hne]; exact Nat.mul_le_mul_right _ hmag
      have k2 : 16 * (m * 2 ^ more) * (2 ^ A * 2 ^ A) = 4 * (m * 2 ^ a) * 2 ^ U * (2 ^ B * 2 ^ B) := by
        rw [pw1, pw2]
        congr 2
        have hi : i = double.leastPlace + a := rfl
        rw [hL] at hi hAB
        omega
      have k3 : 4 * (m * 2 ^ a) * 2 ^ U * (2 ^ B * 2 ^ B) ≤ mg double s * mg double s * (2 ^ B * 2 ^ B) := by
        rw [e1']; exact Nat.mul_le_mul_right _ hs
      have k4 : mg double s * mg double s * (2 ^ B * 2 ^ B) = mg double s * 2 ^ B * (mg double s * 2 ^ B) := by ac_rfl
      omega

end Go.Proofs.Ytnibobbfepdeiaa.Fl
namespace Go.Proofs.Ytnibobbfepdeiaa.Fl
open Ieee
set_option linter.unusedVariables false

theorem cutE_nil (d : Nat) : cutE 0 d = 0 := by
  unfold cutE Toward.cut
  simp [Nat.shiftLeft_eq]
theorem log2_scale (n k : Nat) (h : n ≠ 0) : (n * 2 ^ k).log2 = n.log2 + k := by
  refine (Nat.log2_eq_iff (by have := Nat.two_pow_pos k; exact Nat.mul_ne_zero h (by omega))).2 ⟨?_, ?_⟩
  · rw [Nat.pow_add]; exact Nat.mul_le_mul_right _ (Nat.log2_self_le h)
  · rw [show n.log2 + k + 1 = n.log2 + 1 + k by omega, Nat.pow_add]; exact Nat.mul_lt_mul_of_pos_right Nat.lt_log2_self (Nat.two_pow_pos k)

theorem cutE_scale (n d k : Nat) : cutE (n * 2 ^ k) (d + k) = cutE n d := by
  by_cases hn : n = 0
  · subst hn; rw [Nat.zero_mul, cutE_nil, cutE_nil]
  · unfold cutE Toward.cut
    dsimp only
    rw [log2_scale n k hn, show n.log2 + k + 2 = n.log2 + 2 + k by omega, show min (d + k) (n.log2 + 2 + k) = min d (n.log2 + 2) + k by omega]
    rw [Nat.shiftLeft_eq, Nat.shiftLeft_eq, Nat.one_mul, Nat.one_mul, Nat.pow_add]
    generalize 2 ^ min d (n.log2 + 2) = g
    have hk : 0 < 2 ^ k := Nat.two_pow_pos k
    generalize 2 ^ k = K at *
    rw [Nat.mul_div_mul_right _ _ hk, Nat.mul_mod_mul_right]
    have e1 : decide (g * K < 2 * (n % g * K)) = decide (g < 2 * (n % g)) := by
      rw [decide_eq_decide, ← Nat.mul_assoc]; exact Nat.mul_lt_mul_right hk
    have e2 : (g * K == 2 * (n % g * K)) = (g == 2 * (n % g)) := by
      rw [← Nat.mul_assoc, Bool.eq_iff_iff]; simp only [beq_iff_eq]; exact ⟨fun h => Nat.eq_of_mul_eq_mul_right hk h, fun h => by rw [← h]⟩
    rw [e1, e2]

theorem nearest_scale (f : Format) (neg : Bool) (m : Nat) (p : Int) (k : Nat) : f.nearest neg (m * 2 ^ k) (p - k) = f.nearest neg m p := by
  by_cases hm : m = 0
  · subst hm; rw [Nat.zero_mul]; unfold Format.nearest; rw [if_pos rfl, if_pos rfl]
  · have hk : 0 < 2 ^ k := Nat.two_pow_pos k
    unfold Format.nearest
    rw [if_neg hm, if_neg (Nat.mul_ne_zero hm (by omega))]
    dsimp only
    rw [log2_scale m k hm, show p - (k : Int) + ((m.log2 + k : Nat) : Int) - (f.fractionBits : Int) = p + (m.log2 : Int) - (f.fractionBits : Int) by omega]
    generalize max (p + (m.log2 : Int) - (f.fractionBits : Int)) f.leastPlace = q
    rw [cut_neg, cut_neg]
    congr 2
    obtain ⟨t, h1, h2⟩ : ∃ t, k + (p - k - q).toNat = (p - q).toNat + t ∧ (q - (p - k)).toNat = (q - p).toNat + t := ⟨(q - (p - k)).toNat - (q - p).toNat, by omega, by omega⟩
    rw [h2, Nat.shiftLeft_eq, Nat.shiftLeft_eq, Nat.mul_assoc, ← Nat.pow_add, h1, Nat.pow_add, ← Nat.mul_assoc, cutE_scale]

theorem log2_lt {m n : Nat} (h : m < 2 ^ n) (hm : m ≠ 0) : m.log2 < n := (Nat.log2_lt hm).2 h

/-- Half of a single. -/
theorem half_eq (X : Option Nat) : bin .quo .f32 X (some 1073741824) = bin .mul .f32 (some 1056964608) X := by
  cases X with
  | none => rfl
  | some x =>
    show single.div x 1073741824 = single.mul 1056964608 x
    have r2 : single.read 1073741824 = .number false 8388608 (-22) := by decide
    have rh : single.read 1056964608 = .number false 8388608 (-24) := by decide
    unfold Format.div Format.mul
    rw [r2, rh]
    cases h : single.read x with
    | nan s t => rfl
    | infinity s =>
      show some (single.write (.infinity (s ^^ false))) = some (single.write (.infinity (s ^^ false)))
      rfl
    | number s m i =>
      have hm24 : m < 16777216 := by
        unfold Format.read at h
        dsimp only at h
        have hb : single.binade = 8388608 := by decide
        rw [hb] at h
        split at h
        · injection h with _ h2 _; omega
        · split at h
          · injection h with _ h2 _
            have := Nat.mod_lt (x % single.signWeight) (show 0 < 8388608 by decide)
            omega
          · split at h <;> cases h
      have hl : m.log2 ≤ 23 := by
        by_cases hm : m = 0
        · subst hm; decide
        · have := log2_lt (n := 24) hm24 hm; omega
      show some (single.nearest (s ^^ false) (2 * ((m <<< (25 + Nat.log2 8388608 - m.log2)) / 8388608) + ((m <<< (25 + Nat.log2 8388608 - m.log2)) % 8388608 != 0).toNat) (i - (-22) - ((25 + Nat.log2 8388608 - m.log2 : Nat) : Int) - 1)) = some (single.nearest (false ^^ s) (8388608 * m) (-24 + i))
      rw [show Nat.log2 8388608 = 23 by decide]
      obtain ⟨t, ht⟩ : ∃ t, 25 + 23 - m.log2 = t + 23 := ⟨25 - m.log2, by omega⟩
      rw [ht, Nat.shiftLeft_eq, Nat.pow_add, ← Nat.mul_assoc, show (2 : Nat) ^ 23 = 8388608 by decide, Nat.mul_mod_left, Nat.mul_div_cancel _ (by decide)]
      rw [show (0 != 0 : Bool).toNat = 0 by decide, Nat.add_zero, show 2 * (m * 2 ^ t) = m * 2 ^ (t + 1) by rw [Nat.pow_succ]; ac_rfl, show i - (-22) - ((t + 23 : Nat) : Int) - 1 = (i - 1) - ((t + 1 : Nat) : Int) by omega, nearest_scale]
      rw [show 8388608 * m = m * 2 ^ 23 by rw [Nat.mul_comm], show -24 + i = (i - 1) - ((23 : Nat) : Int) by omega, nearest_scale]
      cases s <;> rfl
end Go.Proofs.Ytnibobbfepdeiaa.Fl
namespace Go.Proofs.Ytnibobbfepdeiaa.Fl
open Ieee
set_option linter.unusedVariables false

/-- How many digits the rounding of n / 2^B drops. -/
def dropN (f : Format) (n B : Nat) : Nat := max (n.log2 - f.fractionBits) B
/-- n / 2^B, rounded (as though the format had no greatest number). -/
def rN (f : Format) (n B : Nat) : Nat := cutE n (dropN f n B) * 2 ^ (dropN f n B - B)
theorem rN_zero (f : Format) (B : Nat) : rN f 0 B = 0 := by unfold rN; rw [cutE_nil, Nat.zero_mul]
theorem cutE_mul (c d : Nat) : cutE (c * 2 ^ d) d = c := by
  have := cutE_scale c 0 d
  rw [Nat.zero_add, cutE_zero] at this
  exact this
theorem log2_ge {n k : Nat} (h : 2 ^ k ≤ n) : k ≤ n.log2 := by
  have hn : n ≠ 0 := by have := Nat.two_pow_pos k; omega
  exact (Nat.le_log2 hn).2 h

theorem rN_scale (f : Format) {n B : Nat} (k : Nat) (h : 2 ^ (f.fractionBits + B) ≤ n) : rN f (n * 2 ^ k) B = rN f n B * 2 ^ k := by
  have hn : n ≠ 0 := by have := Nat.two_pow_pos (f.fractionBits + B); omega
  have hl := log2_ge h
  have e1 : dropN f n B = n.log2 - f.fractionBits := by unfold dropN; omega
  have e2 : dropN f (n * 2 ^ k) B = dropN f n B + k := by unfold dropN; rw [log2_scale n k hn]; omega
  unfold rN
  rw [e2, cutE_scale, Nat.mul_assoc, ← Nat.pow_add, show dropN f n B + k - B = dropN f n B - B + k by omega]
theorem rN_dvd (f : Format) {n B j : Nat} (hB : B ≤ j) (h : 2 ^ j ∣ n) : 2 ^ (j - B) ∣ rN f n B := by
  unfold rN
  have hD : B ≤ dropN f n B := by unfold dropN; omega
  generalize dropN f n B = D at *
  rcases Nat.lt_or_ge j D with hj | hj
  · exact Nat.dvd_trans (Nat.pow_dvd_pow 2 (by omega)) (Nat.dvd_mul_left _ _)
  · obtain ⟨c, rfl⟩ := h
    have e : 2 ^ j * c = c * 2 ^ (j - D) * 2 ^ D := by rw [Nat.mul_assoc, ← Nat.pow_add, show j - D + D = j by omega, Nat.mul_comm]
    rw [e, cutE_mul, Nat.mul_assoc, ← Nat.pow_add, show j - D + (D - B) = j - B by omega]
    exact Nat.dvd_mul_left _ _
/-- What fits is kept. -/
theorem rN_exact (f : Format) {n B j : Nat} (hB : B ≤ j) (h : 2 ^ j ∣ n) (hs : n < 2 ^ (j + f.fractionBits + 1)) : rN f n B * 2 ^ B = n := by
  unfold rN
  have hD : B ≤ dropN f n B := by unfold dropN; omega
  have hj : dropN f n B ≤ j := by
    by_cases hn : n = 0
    · subst hn; unfold dropN; simp; omega
    · have := log2_lt hs hn; unfold dropN; omega
  generalize dropN f n B = D at *
  obtain ⟨c, rfl⟩ := h
  have e : 2 ^ j * c = c * 2 ^ (j - D) * 2 ^ D := by rw [Nat.mul_assoc, ← Nat.pow_add, show j - D + D = j by omega, Nat.mul_comm]
  rw [e, cutE_mul, Nat.mul_assoc, Nat.mul_assoc, ← Nat.pow_add, ← Nat.pow_add, show D - B + B = D by omega, Nat.mul_assoc, ← Nat.pow_add]

theorem nearest_rN (f : Format) (neg : Bool) (n B : Nat) : f.nearest neg n (f.leastPlace - B) = f.word neg (min ((dropN f n B - B) * f.binade + cutE n (dropN f n B)) f.infRung) ∧ mg f ((dropN f n B - B) * f.binade + cutE n (dropN f n B)) = rN f n B := by
  by_cases hn : n = 0
  · subst hn
    refine ⟨?_, ?_⟩
    · unfold Format.nearest
      rw [if_pos rfl, cutE_nil]
      have : dropN f 0 B = B := by unfold dropN; simp
      rw [this]; simp
    · have : dropN f 0 B = B := by unfold dropN; simp
      unfold rN
      rw [cutE_nil, this]; simp [mg_zero]
  · have hD : B ≤ dropN f n B := by unfold dropN; omega
    have hbp := binade_pos f
    have hlo : 2 ^ n.log2 ≤ n := Nat.log2_self_le hn
    have hhi : n < 2 ^ (n.log2 + 1) := Nat.lt_log2_self
    refine ⟨?_, ?_⟩
    · unfold Format.nearest
      rw [if_neg hn]
      dsimp only
      have e : max (f.leastPlace - (B : Int) + (n.log2 : Int) - (f.fractionBits : Int)) f.leastPlace = f.leastPlace + ((dropN f n B - B : Nat) : Int) := by unfold dropN; omega
      rw [e, cut_neg]
      have e1 : (f.leastPlace - (B : Int) - (f.leastPlace + ((dropN f n B - B : Nat) : Int))).toNat = 0 := by omega
      have e2 : (f.leastPlace + ((dropN f n B - B : Nat) : Int) - (f.leastPlace - (B : Int))).toNat = dropN f n B := by omega
      have e3 : (f.leastPlace + ((dropN f n B - B : Nat) : Int) - f.leastPlace).toNat = dropN f n B - B := by omega
      rw [e1, e2, e3, Nat.shiftLeft_zero]
    · have hspec := cutE_spec n (dropN f n B)
      unfold rN
      refine mg_KL f _ _ ?_ ?_
      · have e : 2 * f.binade = 2 ^ (f.fractionBits + 1) := by unfold Format.binade; rw [Nat.pow_succ, Nat.mul_comm]
        rw [e]
        have h1 : n < 2 ^ (f.fractionBits + 1) * 2 ^ dropN f n B := by
          rw [← Nat.pow_add]
          exact Nat.lt_of_lt_of_le hhi (Nat.pow_le_pow_right (by omega) (by unfold dropN; omega))
        generalize dropN f n B = D at *
        generalize cutE n D = K at *
        generalize 2 ^ (f.fractionBits + 1) = C at *
        have hdp : 0 < 2 ^ D := Nat.two_pow_pos _
        have h4 : 2 * K * 2 ^ D < (2 * C + 1) * 2 ^ D := by
          rw [Nat.add_mul, Nat.one_mul, Nat.mul_assoc 2 C]
          omega
        have := Nat.lt_of_mul_lt_mul_right h4
        omega
      · by_cases h0 : dropN f n B = B
        · left; omega
        · right
          have e : dropN f n B = n.log2 - f.fractionBits ∧ f.fractionBits ≤ n.log2 := by unfold dropN at h0 ⊢; omega
          have h1 : f.binade * 2 ^ dropN f n B ≤ n := by
            unfold Format.binade
            rw [← Nat.pow_add, show f.fractionBits + dropN f n B = n.log2 by omega]
            exact hlo
          generalize dropN f n B = D at *
          generalize cutE n D = K at *
          have hdp : 0 < 2 ^ D := Nat.two_pow_pos _
          have h3 : 2 * f.binade * 2 ^ D ≤ (2 * K + 1) * 2 ^ D := by rw [Nat.mul_assoc]; omega
          have := mul_le_cancel hdp h3
          omega

/-- The rounding of V / 2^B, with its sign. -/
def rI (f : Format) (V : Int) (B : Nat) : Int := if V < 0 then -(rN f V.natAbs B : Int) else (rN f V.natAbs B : Int)
theorem rI_neg (f : Format) (V : Int) (B : Nat) : rI f (-V) B = -rI f V B := by
  unfold rI
  rw [Int.natAbs_neg]
  by_cases h : V = 0
  · subst h; simp [rN_zero]
  · by_cases h1 : V < 0
    · rw [if_neg (by omega), if_pos h1]; omega
    · rw [if_pos (by omega), if_neg h1]
theorem rI_abs (f : Format) (V : Int) (B : Nat) : (rI f V B).natAbs = rN f V.natAbs B := by unfold rI; split <;> omega
theorem rI_zero (f : Format) (B : Nat) : rI f 0 B = 0 := by unfold rI; simp [rN_zero]
theorem rI_scale (f : Format) {V : Int} {B : Nat} (k : Nat) (h : V = 0 ∨ 2 ^ (f.fractionBits + B) ≤ V.natAbs) : rI f (V * ((2 ^ k : Nat) : Int)) B = rI f V B * ((2 ^ k : Nat) : Int) := by
  have hk : 0 < 2 ^ k := Nat.two_pow_pos k
  rcases h with rfl | h
  · rw [Int.zero_mul, rI_zero, Int.zero_mul]
  · have e : (V * ((2 ^ k : Nat) : Int)).natAbs = V.natAbs * 2 ^ k := by rw [Int.natAbs_mul, Int.natAbs_natCast]
    unfold rI
    rw [e, rN_scale f k h]
    have hs : (V * ((2 ^ k : Nat) : Int) < 0) ↔ V < 0 := by
      constructor
      · intro hh
        refine Int.not_le.1 fun h' => ?_
        have := Int.mul_nonneg h' (Int.natCast_nonneg (2 ^ k))
        omega
      · intro hh; exact Int.mul_neg_of_neg_of_pos hh (by omega)
    by_cases hv : V < 0
    · rw [if_pos (hs.2 hv), if_pos hv, Int.natCast_mul, Int.neg_mul]
    · rw [if_neg (fun h' => hv (hs.1 h')), if_neg hv, Int.natCast_mul]

/-- A finite word whose value is the rounding of V / 2^B. -/
structure Rd (f : Format) (r : Nat) (V : Int) (B : Nat) : Prop where
  near : Near f r V B
  ex : rung f r < f.infRung → mg f (rung f r) = rN f V.natAbs B
theorem rd_nearest (f : Format) (neg : Bool) (n B : Nat) (V : Int) (hv : V.natAbs = n) (hs : V ≠ 0 → neg = decide (V < 0)) : Rd f (f.nearest neg n (f.leastPlace - B)) V B := by
  refine ⟨near_nearest f neg n _ 0 B (by omega) V (by rw [hv]; simp) hs, fun hr => ?_⟩
  obtain ⟨e1, e2⟩ := nearest_rN f neg n B
  rw [e1, rung_word f neg (Nat.min_le_right _ _)] at hr ⊢
  rw [show min ((dropN f n B - B) * f.binade + cutE n (dropN f n B)) f.infRung = (dropN f n B - B) * f.binade + cutE n (dropN f n B) by omega, e2, hv]
theorem Rd.iv {f : Format} {r : Nat} {V : Int} {B : Nat} (h : Rd f r V B) (hr : rung f r < f.infRung) : iv f r = rI f V B := by
  have he := h.ex hr
  unfold Fl.iv rI
  rw [he]
  by_cases hv : V = 0
  · subst hv; unfold sg; simp [rN_zero]
  · rw [h.near.sign hv]
    unfold sg
    by_cases h1 : V < 0
    · simp [h1]
    · simp [h1]

theorem rd_sum (f : Format) (s t : Bool) (m n a b : Nat) (v : Int) (hv : v = sg s (m * 2 ^ a) + sg t (n * 2 ^ b)) :
    ∃ d, (Datum.number s m (f.leastPlace + a)).sum (.number t n (f.leastPlace + b)) = some d ∧ Rd f (f.write d) v 0 := by
  refine ⟨_, sum_num f s t m n a b, ?_⟩
  have hsc : signed s m (a - min a b) + signed t n (b - min a b) = sg s (m * 2 ^ (a - min a b)) + sg t (n * 2 ^ (b - min a b)) := by rw [signed_sg, signed_sg]
  have hmul : (signed s m (a - min a b) + signed t n (b - min a b)) * ((2 ^ min a b : Nat) : Int) = v := by
    rw [hsc, Int.add_mul, ← sg_mul, ← sg_mul, Nat.mul_assoc, Nat.mul_assoc, ← Nat.pow_add, ← Nat.pow_add, show a - min a b + min a b = a by omega, show b - min a b + min a b = b by omega, hv]
  have hpos : (0 : Int) < ((2 ^ min a b : Nat) : Int) := by exact_mod_cast Nat.two_pow_pos _
  generalize signed s m (a - min a b) + signed t n (b - min a b) = T at *
  show Rd f (f.nearest _ _ _) v 0
  have e := nearest_scale f (if T = 0 then s && t else decide (T < 0)) T.natAbs (f.leastPlace + (min a b : Nat)) (min a b)
  rw [show f.leastPlace + ((min a b : Nat) : Int) - ((min a b : Nat) : Int) = f.leastPlace - ((0 : Nat) : Int) by omega] at e
  rw [← e]
  refine rd_nearest f _ _ 0 v ?_ ?_
  · rw [← hmul, Int.natAbs_mul]; rfl
  · intro hv0
    have hT : T ≠ 0 := by
      intro h; rw [h, Int.zero_mul] at hmul; exact hv0 hmul.symm
    rw [if_neg hT, decide_eq_decide]
    constructor
    · intro h
      have := Int.mul_neg_of_neg_of_pos h hpos
      omega
    · intro h
      refine Int.not_le.1 fun h' => ?_
      have := Int.mul_nonneg h' (Int.le_of_lt hpos)
      omega

theorem rd_add (k : FloatKind) {x y : Nat} (hx : rung k.format x < k.format.infRung) (hy : rung k.format y < k.format.infRung) :
    ∃ r, bin .add k (some x) (some y) = some r ∧ Rd k.format r (iv k.format x + iv k.format y) 0 := by
  obtain ⟨m, a, e1, e1'⟩ := read_fin k.format hx
  obtain ⟨n, b, e2, e2'⟩ := read_fin k.format hy
  obtain ⟨d, hd, hn⟩ := rd_sum k.format (sgn k.format x) (sgn k.format y) m n a b (iv k.format x + iv k.format y) (by unfold iv; rw [e1', e2'])
  refine ⟨k.format.write d, ?_, hn⟩
  show (((k.format.read x).sum (k.format.read y)).map k.format.write) = _
  rw [e1, e2, hd]; rfl
theorem rd_sub (k : FloatKind) {x y : Nat} (hx : rung k.format x < k.format.infRung) (hy : rung k.format y < k.format.infRung) :
    ∃ r, bin .sub k (some x) (some y) = some r ∧ Rd k.format r (iv k.format x - iv k.format y) 0 := by
  obtain ⟨m, a, e1, e1'⟩ := read_fin k.format hx
  obtain ⟨n, b, e2, e2'⟩ := read_fin k.format hy
  obtain ⟨d, hd, hn⟩ := rd_sum k.format (sgn k.format x) (!sgn k.format y) m n a b (iv k.format x - iv k.format y) (by
    unfold iv; rw [e1', e2']
    have : sg (!sgn k.format y) (mg k.format (rung k.format y)) = - sg (sgn k.format y) (mg k.format (rung k.format y)) := by unfold sg; cases sgn k.format y <;> simp
    rw [this]; omega)
  refine ⟨k.format.write d, ?_, hn⟩
  show (((k.format.read x).sum (k.format.read y).opposite).map k.format.write) = _
  rw [e1, opposite_fin e2, hd]; rfl
theorem rd_mul (k : FloatKind) {x y : Nat} (hx : rung k.format x < k.format.infRung) (hy : rung k.format y < k.format.infRung) :
    ∃ r, bin .mul k (some x) (some y) = some r ∧ Rd k.format r (iv k.format x * iv k.format y) (under k.format) := by
  obtain ⟨m, a, e1, e1'⟩ := read_fin k.format hx
  obtain ⟨n, b, e2, e2'⟩ := read_fin k.format hy
  have hl := under_eq k
  refine ⟨k.format.nearest (sgn k.format x ^^ sgn k.format y) (m * n) (k.format.leastPlace + a + (k.format.leastPlace + b)), ?_, ?_⟩
  · show (((k.format.read x).product (k.format.read y)).map k.format.write) = _
    rw [e1, e2]; rfl
  · have e := nearest_scale k.format (sgn k.format x ^^ sgn k.format y) (m * n) (k.format.leastPlace + a + (k.format.leastPlace + b)) (a + b)
    rw [show k.format.leastPlace + (a : Int) + (k.format.leastPlace + (b : Int)) - ((a + b : Nat) : Int) = k.format.leastPlace - ((under k.format : Nat) : Int) by omega] at e
    rw [← e]
    refine rd_nearest _ _ _ _ _ ?_ ?_
    · rw [Int.natAbs_mul]
      unfold iv
      rw [sg_natAbs, sg_natAbs, ← e1', ← e2', Nat.pow_add]
      ac_rfl
    · intro h
      unfold iv sg at h ⊢
      generalize mg k.format (rung k.format x) = X at *
      generalize mg k.format (rung k.format y) = Y at *
      have hX : X ≠ 0 := by intro h0; apply h; rw [h0]; cases sgn k.format x <;> simp
      have hY : Y ≠ 0 := by intro h0; apply h; rw [h0]; cases sgn k.format y <;> simp
      have hpos : (0 : Int) < (X : Int) * (Y : Int) := Int.mul_pos (by omega) (by omega)
      cases sgn k.format x <;> cases sgn k.format y <;> simp [Int.neg_mul, Int.mul_neg] <;> omega
end Go.Proofs.Ytnibobbfepdeiaa.Fl
namespace Go.Proofs.Ytnibobbfepdeiaa
open Fl Go.RowKit
set_option linter.unusedVariables false

/-- Block B of three cells, which may be written. -/
def Cells3 (w : World) (B : Nat) (v0 v1 v2 : Value) : Prop :=
  w.cell? ⟨B, 0, none⟩ = some v0 ∧ w.cell? ⟨B, 1, none⟩ = some v1 ∧ w.cell? ⟨B, 2, none⟩ = some v2 ∧ w.frozen? ⟨B, 0, none⟩ = false ∧ w.frozen? ⟨B, 1, none⟩ = false ∧ w.frozen? ⟨B, 2, none⟩ = false ∧ B < w.heap.size

theorem Cells3.new (w : World) (v0 v1 v2 : Value) (t : TypeId) : Cells3 (w.alloc (.cells #[v0, v1, v2] t)) w.heap.size v0 v1 v2 := by
  refine ⟨by simp [go_sem], by simp [go_sem], by simp [go_sem], by simp [go_sem], by simp [go_sem], by simp [go_sem], by simp⟩

theorem Cells3.below {w w' : World} {B : Nat} {v0 v1 v2 : Value} (hb : Below w.heap.size w w') (h : Cells3 w B v0 v1 v2) : Cells3 w' B v0 v1 v2 := by
  obtain ⟨h0, h1, h2, z0, z1, z2, hs⟩ := h
  exact ⟨(hb.cell hs).trans h0, (hb.cell hs).trans h1, (hb.cell hs).trans h2, (hb.frozen hs).trans z0, (hb.frozen hs).trans z1, (hb.frozen hs).trans z2, Nat.lt_of_lt_of_le hs hb.size⟩

theorem Cells3.set {w : World} {B : Nat} {u0 u1 u2 v0 v1 v2 : Value} (h : Cells3 w B u0 u1 u2) : Cells3 (((w.setCell ⟨B, 0, none⟩ v0).setCell ⟨B, 1, none⟩ v1).setCell ⟨B, 2, none⟩ v2) B v0 v1 v2 := by
  obtain ⟨h0, h1, h2, z0, z1, z2, hs⟩ := h
  refine ⟨?_, ?_, ?_, ?_, ?_, ?_, by simpa using hs⟩
  · rw [World.cell?_setCell_other _ _ _ _ (by simp), World.cell?_setCell_other _ _ _ _ (by simp)]; exact World.cell?_setCell_same _ _ _ h0
  · rw [World.cell?_setCell_other _ _ _ _ (by simp)]; refine World.cell?_setCell_same (u := u1) _ _ _ ?_; rw [World.cell?_setCell_other _ _ _ _ (by simp)]; exact h1
  · refine World.cell?_setCell_same (u := u2) _ _ _ ?_; rw [World.cell?_setCell_other _ _ _ _ (by simp), World.cell?_setCell_other _ _ _ _ (by simp)]; exact h2
  · simp [go_sem, z0]
  · simp [go_sem, z1]
  · simp [go_sem, z2]

theorem Cells3.drew {w : World} {B : Nat} {v0 v1 v2 : Value} (h : Cells3 w B v0 v1 v2) : Cells3 w.drew B v0 v1 v2 := h
theorem Cells3.drewN {w : World} {B : Nat} {v0 v1 v2 : Value} (h : Cells3 w B v0 v1 v2) (n : Nat) : Cells3 (w.drewN n) B v0 v1 v2 := h
theorem Cells3.alloc {w : World} {B : Nat} {v0 v1 v2 : Value} (h : Cells3 w B v0 v1 v2) (o : Obj) : Cells3 (w.alloc o) B v0 v1 v2 :=
  h.below (Below.alloc (Below.refl _ _) (Nat.le_refl _) o)

theorem Below.set3 {B0 B : Nat} {w0 w : World} (h : Below B0 w0 w) (hB : B0 ≤ B) (v0 v1 v2 : Value) : Below B0 w0 (((w.setCell ⟨B, 0, none⟩ v0).setCell ⟨B, 1, none⟩ v1).setCell ⟨B, 2, none⟩ v2) :=
  Below.setCell (Below.setCell (Below.setCell h hB _) hB _) hB _

end Go.Proofs.Ytnibobbfepdeiaa
namespace Go.Proofs.Ytnibobbfepdeiaa
open Fl Ieee Go.RowKit
set_option linter.unusedVariables false

theorem math_Sqrt (x : Nat) (w : World) : Calls Try.prog 121 #[.float .f64 x] w fun e w' => ∃ r, e = .returned (.float .f64 r) ∧ FR .f64 r (sqrtV (val .f64 x)) ∧ ∃ n, w' = w.drewN n := by
  obtain ⟨r, n, hrun, hf⟩ := run_sqrt (P := Try.prog) x w
  go_enter Try.func121, Try.ntmps121
  go_wp2_with fail
  go_ret
  exact ⟨r, rfl, hf, n, rfl⟩

theorem narOk_root (x : Nat) : NarOk (sqrtV (wid (val .f32 x))) := by
  intro b hb
  rcases val_cases .f32 x with h | h
  · rw [h] at hb
    have hb' : double.sqrt (W x) = some b := hb
    have hnn := (nn_iff .f32 x).1 h
    rcases Nat.lt_or_ge (rung single x) single.infRung with h' | h'
    · have hW := W_fin h'
      have hle : mg double (rung double (W x)) ≤ mg single (single.infRung - 1) * 2 ^ 925 := by
        rw [hW.1]; exact Nat.mul_le_mul_right _ ((mg_le_iff single).2 (by omega))
      have hs := root_le 1074 (by decide) hW.2.2 hb' 4904418691351740416 (by
        refine Nat.le_trans (Nat.mul_le_mul_right _ (Nat.mul_le_mul_left _ hle)) ?_
        decide +kernel)
      have hok := NarOk.of_le (b := b) (Nat.le_trans ((mg_le_iff double).2 hs) (by decide +kernel))
      exact hok b rfl
    · have e : rung single x = single.infRung := by
        have : rung single x ≤ single.infRung := hnn
        omega
      left
      have hr := read_inf double (by decide) (W_inf e).1
      unfold Format.sqrt at hb'
      rw [hr] at hb'
      simp only [Datum.root] at hb'
      split at hb'
      · cases hb'
      · cases hb'
        exact rung_word double _ (Nat.le_refl _)
  · rw [h] at hb; cases hb

theorem impl_RootNumber (x : Nat) (hx : x < 4294967296) (w : World) : Calls Try.prog 101 #[.float .f32 x] w fun e w' => ∃ r, e = .returned (.float .f32 r) ∧ FR .f32 r (nar (sqrtV (wid (val .f32 x)))) ∧ ∃ n, w' = w.drewN n := by
  have hok := narOk_root x
  go_enter Try.func101, Try.ntmps101
  go_wp2_with (first | (refine wpList_widen rfl _ _ _ rfl _ rfl (by kernel_rfl) (by kernel_rfl) ?_; intro r1 n1 hr1) | (go_at_call 121; refine (math_Sqrt _ _).mono ?_; rintro e w' ⟨r2, rfl, hr2, n2, rfl⟩; rw [hr1.val] at hr2) | (refine wpList_narrow rfl _ _ _ rfl _ rfl (by kernel_rfl) (by kernel_rfl) (by rw [hr2.val]; exact hok) ?_; intro r3 n3 hr3))
  go_ret
  exact ⟨r3, rfl, by rw [hr2.val] at hr3; exact hr3, _, rfl⟩

theorem spec_l01Narrow (x : Nat) (hok : NarOk (val .f64 x)) (w : World) : Calls Try.prog 114 #[.float .f64 x] w fun e w' => ∃ r, e = .returned (.float .f32 r) ∧ FR .f32 r (nar (val .f64 x)) ∧ ∃ n, w' = w.drewN n := by
  go_enter Try.func114, Try.ntmps114
  go_wp2_with (refine wpList_narrow rfl _ _ _ rfl _ rfl (by kernel_rfl) (by kernel_rfl) hok ?_; intro r3 n3 hr3)
  go_ret
  exact ⟨r3, rfl, hr3, _, rfl⟩

theorem spec_l01Sqrt (x : Nat) (hx : x < 4294967296) (w : World) : Calls Try.prog 119 #[.float .f32 x] w fun e w' => ∃ r, e = .returned (.float .f32 r) ∧ FR .f32 r (nar (sqrtV (wid (val .f32 x)))) ∧ ∃ n, w' = w.drewN n := by
  have hok := narOk_root x
  go_enter Try.func119, Try.ntmps119
  go_wp2_with (first | (refine wpList_widen rfl _ _ _ rfl _ rfl (by kernel_rfl) (by kernel_rfl) ?_; intro r1 n1 hr1) | (go_at_call 121; refine (math_Sqrt _ _).mono ?_; rintro e w' ⟨r2, rfl, hr2, n2, rfl⟩; rw [hr1.val] at hr2) | (go_at_call 114; refine (spec_l01Narrow _ (by rw [hr2.val]; exact hok) _).mono ?_; rintro e w' ⟨r3, rfl, hr3, n3, rfl⟩))
  go_ret
  exact ⟨r3, rfl, by rw [hr2.val] at hr3; exact hr3, _, rfl⟩

end Go.Proofs.Ytnibobbfepdeiaa
namespace Go.Proofs.Ytnibobbfepdeiaa
open Fl Go.RowKit
set_option linter.unusedVariables false

/-- The inner product of a vector with itself. -/
def innV (X Y Z : Option Nat) : Option Nat := bin .add .f32 (bin .add .f32 (bin .mul .f32 X X) (bin .mul .f32 Y Y)) (bin .mul .f32 Z Z)
def longV (X Y Z : Option Nat) : Option Nat := nar (sqrtV (wid (innV X Y Z)))

theorem impl_LongOf (a b c : Nat) (w : World) : Calls Try.prog 72 #[.agg #[.float .f32 a, .float .f32 b, .float .f32 c]] w fun e w' => ∃ r, e = .returned (.float .f32 r) ∧ FR .f32 r (longV (val .f32 a) (val .f32 b) (val .f32 c)) ∧ Below w.heap.size w w' := by
  have bw0 : Below w.heap.size w (w.alloc (.cells #[.float .f32 a, .float .f32 b, .float .f32 c] 59)) := Below.alloc (Below.refl _ _) (Nat.le_refl _) _
  go_enter Try.func72, Try.ntmps72
  go_wp2_with (first | (go_at_call 102; refine (impl_InnerOf _ _ _ _ _ _ _).mono ?_; rintro e w' ⟨s, rfl, hs, hb⟩; have bw := bw0.trans (hb.mono bw0.size); have hslt : s < 4294967296 := hs.lt) | (go_at_call 101; refine (impl_RootNumber _ hslt _).mono ?_; rintro e w' ⟨r, rfl, hr, n, rfl⟩) | fail)
  go_ret
  refine ⟨r, rfl, ?_, Below.drewN bw n⟩
  rw [hs.val] at hr
  exact hr

theorem spec_l01Long (a b c : Nat) (w : World) : Calls Try.prog 99 #[.agg #[.float .f32 a, .float .f32 b, .float .f32 c]] w fun e w' => ∃ r, e = .returned (.float .f32 r) ∧ FR .f32 r (longV (val .f32 a) (val .f32 b) (val .f32 c)) ∧ Below w.heap.size w w' := by
  have bw0 : Below w.heap.size w (w.alloc (.cells #[.float .f32 a, .float .f32 b, .float .f32 c] 59)) := Below.alloc (Below.refl _ _) (Nat.le_refl _) _
  go_enter Try.func99, Try.ntmps99
  go_wp2_with (first | (go_at_call 120; refine (spec_l01Inner _ _ _ _ _ _ _).mono ?_; rintro e w' ⟨s, rfl, hs, hb⟩; have bw := bw0.trans (hb.mono bw0.size); have hslt : s < 4294967296 := hs.lt) | (go_at_call 119; refine (spec_l01Sqrt _ hslt _).mono ?_; rintro e w' ⟨r, rfl, hr, n, rfl⟩) | fail)
  go_ret
  refine ⟨r, rfl, ?_, Below.drewN bw n⟩
  rw [hs.val] at hr
  exact hr

end Go.Proofs.Ytnibobbfepdeiaa
namespace Go.Proofs.Ytnibobbfepdeiaa.Fl
open Ieee
set_option linter.unusedVariables false

theorem rN_le_pow (f : Format) {n B e : Nat} (h : n ≤ 2 ^ (e + B)) : rN f n B ≤ 2 ^ e := by
  have hD : B ≤ dropN f n B := by unfold dropN; omega
  have hDe : dropN f n B ≤ e + B := by
    by_cases hn : n = 0
    · subst hn; unfold dropN; simp
    · have := Nat.log2_self_le hn
      have h1 : 2 ^ n.log2 ≤ 2 ^ (e + B) := by omega
      have := (Nat.pow_le_pow_iff_right (a := 2) (by omega)).1 h1
      unfold dropN; omega
  have hspec := cutE_spec n (dropN f n B)
  unfold rN
  generalize dropN f n B = D at *
  have h2 : 2 ^ (e + B) = 2 ^ (e + B - D) * 2 ^ D := by rw [← Nat.pow_add]; congr 1; omega
  have hdp : 0 < 2 ^ D := Nat.two_pow_pos _
  have h3 : 2 * cutE n D * 2 ^ D ≤ (2 * 2 ^ (e + B - D) + 1) * 2 ^ D := by
    rw [Nat.add_mul, Nat.one_mul, Nat.mul_assoc 2 (2 ^ (e + B - D))]; omega
  have h4 := mul_le_cancel hdp h3
  have h5 : cutE n D ≤ 2 ^ (e + B - D) := by omega
  have h6 := Nat.mul_le_mul_right (2 ^ (D - B)) h5
  rw [← Nat.pow_add, show e + B - D + (D - B) = e by omega] at h6
  exact h6
theorem rN_ge_pow (f : Format) {n B e : Nat} (h : 2 ^ (e + B) ≤ n) : 2 ^ e ≤ rN f n B := by
  have hn : n ≠ 0 := by have := Nat.two_pow_pos (e + B); omega
  have hD : B ≤ dropN f n B := by unfold dropN; omega
  have hspec := cutE_spec n (dropN f n B)
  have hlo := Nat.log2_self_le hn
  have hDl : dropN f n B ≤ n.log2 ∨ dropN f n B = B := by unfold dropN; omega
  unfold rN
  generalize dropN f n B = D at *
  have hdp : 0 < 2 ^ D := Nat.two_pow_pos _
  rcases Nat.lt_or_ge (e + B) D with hc | hc
  · have h1 : 2 ^ D ≤ n := Nat.le_trans (Nat.pow_le_pow_right (by omega) (by omega)) hlo
    have h3 : 2 * 1 * 2 ^ D ≤ (2 * cutE n D + 1) * 2 ^ D := by omega
    have h4 := mul_le_cancel hdp h3
    have h5 : 1 ≤ cutE n D := by omega
    have h6 := Nat.mul_le_mul_right (2 ^ (D - B)) h5
    rw [Nat.one_mul] at h6
    exact Nat.le_trans (Nat.pow_le_pow_right (by omega) (by omega)) h6
  · have h2 : 2 ^ (e + B) = 2 ^ (e + B - D) * 2 ^ D := by rw [← Nat.pow_add]; congr 1; omega
    have h3 : 2 * 2 ^ (e + B - D) * 2 ^ D ≤ (2 * cutE n D + 1) * 2 ^ D := by rw [Nat.mul_assoc 2 (2 ^ (e + B - D))]; omega
    have h4 := mul_le_cancel hdp h3
    have h5 : 2 ^ (e + B - D) ≤ cutE n D := by omega
    have h6 := Nat.mul_le_mul_right (2 ^ (D - B)) h5
    rw [← Nat.pow_add, show e + B - D + (D - B) = e by omega] at h6
    exact h6
theorem rN_ge0 (f : Format) {n e : Nat} (h : 2 ^ e ≤ n) : 2 ^ e ≤ rN f n 0 := rN_ge_pow f (B := 0) (by rw [Nat.add_zero]; exact h)
theorem rN_le0 (f : Format) {n e : Nat} (h : n ≤ 2 ^ e) : rN f n 0 ≤ 2 ^ e := rN_le_pow f (B := 0) (by rw [Nat.add_zero]; exact h)
/-- The error of a rounded sum. -/
theorem rN_err (f : Format) (n : Nat) : 2 ^ (f.fractionBits + 1) * rN f n 0 ≤ 2 ^ (f.fractionBits + 1) * n + n ∧ 2 ^ (f.fractionBits + 1) * n ≤ 2 ^ (f.fractionBits + 1) * rN f n 0 + n := by
  have hspec := cutE_spec n (dropN f n 0)
  unfold rN
  rw [Nat.sub_zero]
  by_cases hd : dropN f n 0 = 0
  · rw [hd, cutE_zero, Nat.pow_zero, Nat.mul_one]; omega
  · have hn : n ≠ 0 := by rintro rfl; apply hd; unfold dropN; simp
    have hlo := Nat.log2_self_le hn
    have h1 : 2 ^ f.fractionBits * 2 ^ dropN f n 0 ≤ n := by
      rw [← Nat.pow_add, show f.fractionBits + dropN f n 0 = n.log2 by unfold dropN at hd ⊢; omega]
      exact hlo
    generalize dropN f n 0 = D at *
    generalize cutE n D = K at *
    generalize 2 ^ D = E at *
    rw [Nat.pow_succ]
    generalize 2 ^ f.fractionBits = C at *
    have e1 : 2 * K * E = 2 * (K * E) := Nat.mul_assoc _ _ _
    have e2 : (2 * K + 1) * E = 2 * (K * E) + E := by rw [Nat.add_mul, Nat.one_mul, Nat.mul_assoc]
    rw [e1, e2] at hspec
    generalize K * E = R at *
    have m1 := Nat.mul_le_mul_left C hspec.1
    have m2 := Nat.mul_le_mul_left C hspec.2
    rw [Nat.mul_add] at m1 m2
    have e3 : C * 2 * R = C * (2 * R) := Nat.mul_assoc _ _ _
    have e4 : C * 2 * n = C * (2 * n) := Nat.mul_assoc _ _ _
    rw [e3, e4]
    omega
theorem rN_ge (f : Format) {n B s : Nat} (hs : s ≤ f.infRung) (h : mg f s * 2 ^ B ≤ n) : mg f s ≤ rN f n B := by
  obtain ⟨e1, e2⟩ := nearest_rN f false n B
  obtain ⟨r0, L, hne, h1, _⟩ := nearest_spec f false n (f.leastPlace - B) 0 B (by omega)
  have h3 := h1 s (by simpa using h)
  have h4 : min ((dropN f n B - B) * f.binade + cutE n (dropN f n B)) f.infRung = min r0 f.infRung := by
    have := congrArg (rung f) (e1.symm.trans hne)
    rwa [rung_word f false (Nat.min_le_right _ _), rung_word f false (Nat.min_le_right _ _)] at this
  rw [← e2]
  exact (mg_le_iff f).2 (by omega)

/-! ### divisors -/
def Dv (j : Nat) (v : Int) : Prop := ((2 ^ j : Nat) : Int) ∣ v
theorem Dv.big {j : Nat} {v : Int} (h : Dv j v) : v = 0 ∨ 2 ^ j ≤ v.natAbs := by
  by_cases h0 : v = 0
  · exact .inl h0
  · right
    have h1 : 2 ^ j ∣ v.natAbs := Int.ofNat_dvd_left.1 h
    exact Nat.le_of_dvd (by omega) h1
theorem Dv.add {j : Nat} {u v : Int} (h : Dv j u) (h' : Dv j v) : Dv j (u + v) := Int.dvd_add h h'
theorem Dv.sub {j : Nat} {u v : Int} (h : Dv j u) (h' : Dv j v) : Dv j (u - v) := Int.dvd_sub h h'
theorem Dv.mul {i j : Nat} {u v : Int} (h : Dv i u) (h' : Dv j v) : Dv (i + j) (u * v) := by
  unfold Dv at *
  rw [Nat.pow_add, Int.natCast_mul]
  exact Int.mul_dvd_mul h h'
theorem Dv.rI {f : Format} {j B : Nat} {v : Int} (hB : B ≤ j) (h : Dv j v) : Dv (j - B) (rI f v B) := by
  have h1 : 2 ^ j ∣ v.natAbs := Int.ofNat_dvd_left.1 h
  unfold Dv
  rw [Int.ofNat_dvd_left, rI_abs]
  exact rN_dvd f hB h1

/-! ### singles -/
/-- X is a finite single of the value v (units of the least place). -/
def Fv (X : Option Nat) (v : Int) : Prop := ∃ b, X = some b ∧ rung single b < single.infRung ∧ iv single b = v
theorem single_pow {e : Nat} (h : 23 ≤ e) : mg single ((e - 22) * 8388608) = 2 ^ e := by
  obtain ⟨d, rfl⟩ : ∃ d, e = d + 23 := ⟨e - 23, by omega⟩
  have h2 := mg_KL single d single.binade (by omega) (.inr (Nat.le_refl _))
  have hb : single.binade = 8388608 := by decide
  have hc : single.binade = 2 ^ 23 := by decide
  have e1 : (d + 23 - 22) * 8388608 = d * single.binade + single.binade := by rw [hb]; omega
  rw [e1, h2, hc, ← Nat.pow_add, Nat.add_comm]
theorem Rd.fin {r B e : Nat} {V : Int} (h : Rd single r V B) (hb : V.natAbs ≤ 2 ^ (e + B)) (h1 : 23 ≤ e) (h2 : e ≤ 270) : rung single r < single.infRung := by
  have := h.near.le (s := (e - 22) * 8388608) (by rw [single_pow h1, ← Nat.pow_add]; exact hb)
  have hi : single.infRung = 2139095040 := by decide
  omega
theorem under_single : under single = 149 := by decide +kernel
theorem Fv.add {X Y : Option Nat} {u v : Int} (hx : Fv X u) (hy : Fv Y v) (e : Nat) (hb : (u + v).natAbs ≤ 2 ^ e) (h1 : 23 ≤ e) (h2 : e ≤ 270) : Fv (bin .add .f32 X Y) (rI single (u + v) 0) := by
  obtain ⟨x, rfl, hx, rfl⟩ := hx
  obtain ⟨y, rfl, hy, rfl⟩ := hy
  obtain ⟨r, hr, hd⟩ := rd_add .f32 hx hy
  have hf := Rd.fin (e := e) hd (by rw [Nat.add_zero]; exact hb) h1 h2
  exact ⟨r, hr, hf, hd.iv hf⟩
theorem Fv.sub {X Y : Option Nat} {u v : Int} (hx : Fv X u) (hy : Fv Y v) (e : Nat) (hb : (u - v).natAbs ≤ 2 ^ e) (h1 : 23 ≤ e) (h2 : e ≤ 270) : Fv (bin .sub .f32 X Y) (rI single (u - v) 0) := by
  obtain ⟨x, rfl, hx, rfl⟩ := hx
  obtain ⟨y, rfl, hy, rfl⟩ := hy
  obtain ⟨r, hr, hd⟩ := rd_sub .f32 hx hy
  have hf := Rd.fin (e := e) hd (by rw [Nat.add_zero]; exact hb) h1 h2
  exact ⟨r, hr, hf, hd.iv hf⟩
theorem Fv.mul {X Y : Option Nat} {u v : Int} (hx : Fv X u) (hy : Fv Y v) (e : Nat) (hb : (u * v).natAbs ≤ 2 ^ (e + 149)) (h1 : 23 ≤ e) (h2 : e ≤ 270) : Fv (bin .mul .f32 X Y) (rI single (u * v) 149) := by
  obtain ⟨x, rfl, hx, rfl⟩ := hx
  obtain ⟨y, rfl, hy, rfl⟩ := hy
  obtain ⟨r, hr, hd⟩ := rd_mul .f32 hx hy
  rw [show under FloatKind.f32.format = 149 from under_single] at hd
  have hf := Rd.fin (e := e) hd hb h1 h2
  exact ⟨r, hr, hf, hd.iv hf⟩
theorem rI_le {f : Format} {V : Int} {B e : Nat} (h : V.natAbs ≤ 2 ^ (e + B)) : (rI f V B).natAbs ≤ 2 ^ e := by rw [rI_abs]; exact rN_le_pow f h
theorem rI_nonneg {f : Format} {V : Int} {B : Nat} (h : 0 ≤ V) : 0 ≤ rI f V B := by unfold rI; rw [if_neg (by omega)]; omega
theorem natAbs_mul_le {u v : Int} {i j : Nat} (h : u.natAbs ≤ 2 ^ i) (h' : v.natAbs ≤ 2 ^ j) : (u * v).natAbs ≤ 2 ^ (i + j) := by
  rw [Int.natAbs_mul, Nat.pow_add]; exact Nat.mul_le_mul h h'
theorem natAbs_add_le {u v : Int} {i : Nat} (h : u.natAbs ≤ 2 ^ i) (h' : v.natAbs ≤ 2 ^ i) : (u + v).natAbs ≤ 2 ^ (i + 1) := by rw [Nat.pow_succ]; omega
theorem natAbs_sub_le {u v : Int} {i : Nat} (h : u.natAbs ≤ 2 ^ i) (h' : v.natAbs ≤ 2 ^ i) : (u - v).natAbs ≤ 2 ^ (i + 1) := by rw [Nat.pow_succ]; omega
end Go.Proofs.Ytnibobbfepdeiaa.Fl
namespace Go.Proofs.Ytnibobbfepdeiaa.Fl
open Ieee
set_option linter.unusedVariables false

def rootM (m more : Nat) : Nat := 2 * Datum.rootFrom (m <<< more) ((m <<< more).log2 / 2 + 1) 0 + (Datum.rootFrom (m <<< more) ((m <<< more).log2 / 2 + 1) 0 * Datum.rootFrom (m <<< more) ((m <<< more).log2 / 2 + 1) 0 != m <<< more).toNat
/-- The parts of a double of value v (in units), normal. -/
def partA (v : Nat) : Nat := v.log2 - 52
def partM (v : Nat) : Nat := v / 2 ^ partA v
def moreN (a : Nat) : Nat := 56 + (((a : Int) - 1074 - 56) % 2).toNat
def outA (a : Nat) : Nat := (((a : Int) - 1074 - (moreN a : Int)) / 2 - 1 + 1074).toNat
/-- The root's value. -/
def rootV (v : Nat) : Nat := rN double (rootM (partM v) (moreN (partA v)) * 2 ^ outA (partA v)) 0

theorem rootFrom_ge (n : Nat) : ∀ (todo root : Nat), root ≤ Datum.rootFrom n todo root := by
  intro todo
  induction todo with
  | zero => intro root; exact Nat.le_refl _
  | succ todo ih =>
    intro root
    unfold Datum.rootFrom
    dsimp only
    split
    · exact Nat.le_trans (Nat.le_add_right _ _) (ih _)
    · exact ih _
theorem root_big {n : Nat} (h : n ≠ 0) : 2 ^ (n.log2 / 2) ≤ Datum.rootFrom n (n.log2 / 2 + 1) 0 := by
  unfold Datum.rootFrom
  dsimp only
  have h1 : (0 + 1 <<< (n.log2 / 2)) * (0 + 1 <<< (n.log2 / 2)) ≤ n := by
    rw [Nat.zero_add, Nat.shiftLeft_eq, Nat.one_mul, ← Nat.pow_add]
    exact Nat.le_trans (Nat.pow_le_pow_right (by omega) (by omega)) (Nat.log2_self_le h)
  rw [if_pos h1]
  refine Nat.le_trans ?_ (rootFrom_ge n _ _)
  rw [Nat.zero_add, Nat.shiftLeft_eq, Nat.one_mul]
  exact Nat.le_refl _

theorem part_spec {v : Nat} (h : 2 ^ 52 ≤ v) : 2 ^ 52 ≤ partM v ∧ partM v < 2 ^ 53 := by
  have hv : v ≠ 0 := by have := Nat.two_pow_pos 52; omega
  have h1 := Nat.log2_self_le hv
  have h2 : v < 2 ^ (v.log2 + 1) := Nat.lt_log2_self
  have hl := log2_ge h
  have e : v.log2 = 52 + partA v := by unfold partA; omega
  unfold partM
  have hp : 0 < 2 ^ partA v := Nat.two_pow_pos _
  constructor
  · rw [Nat.le_div_iff_mul_le hp, ← Nat.pow_add, ← e]; exact h1
  · rw [Nat.div_lt_iff_lt_mul hp, ← Nat.pow_add, show 53 + partA v = v.log2 + 1 by omega]; exact h2
theorem part_mul4 {v : Nat} (h : 2 ^ 52 ≤ v) : partA (v * 2 ^ 4) = partA v + 4 ∧ partM (v * 2 ^ 4) = partM v := by
  have hv : v ≠ 0 := by have := Nat.two_pow_pos 52; omega
  have hl := log2_ge h
  have e : partA (v * 2 ^ 4) = partA v + 4 := by unfold partA; rw [log2_scale v 4 hv]; omega
  refine ⟨e, ?_⟩
  unfold partM
  rw [e, Nat.pow_add, Nat.mul_div_mul_right _ _ (Nat.two_pow_pos 4)]
theorem more_4 (a : Nat) : moreN (a + 4) = moreN a := by unfold moreN; omega
theorem more_bd (a : Nat) : 56 ≤ moreN a ∧ moreN a ≤ 57 := by unfold moreN; omega
theorem more_even (a : Nat) : ∃ h : Int, (a : Int) - 1074 - (moreN a : Int) = 2 * h := ⟨((a : Int) - 1074 - (moreN a : Int)) / 2, by unfold moreN; omega⟩

theorem pow_at_le {e e' R : Nat} (h : e = e') (hr : 2 ^ e ≤ R) : 2 ^ e' ≤ R := h ▸ hr
theorem pow_at_ge {e e' R : Nat} (h : e = e') (hr : R ≤ 2 ^ e) : R ≤ 2 ^ e' := h ▸ hr
theorem pow_mono2 {i j : Nat} (h : i ≤ j) : 2 ^ i ≤ 2 ^ j := Nat.pow_le_pow_right (by omega) h
theorem mul_pow_ge {M A i j c : Nat} (h : 2 ^ i ≤ M) (h' : j ≤ A) (hc : c = i + j) : 2 ^ c ≤ M * 2 ^ A := by
  subst hc; rw [Nat.pow_add]; exact Nat.mul_le_mul h (Nat.pow_le_pow_right (by omega) h')
theorem mul_pow_le {M A i j c : Nat} (h : M ≤ 2 ^ i) (h' : A ≤ j) (hc : c = i + j) : M * 2 ^ A ≤ 2 ^ c := by
  subst hc; rw [Nat.pow_add]; exact Nat.mul_le_mul h (Nat.pow_le_pow_right (by omega) h')
theorem rootM_bd {m more : Nat} (h : 2 ^ 52 ≤ m) (h' : m < 2 ^ 53) (h1 : 56 ≤ more) (h2 : more ≤ 57) : 2 ^ 55 ≤ rootM m more ∧ rootM m more ≤ 2 ^ 57 := by
  unfold rootM
  have hn : m <<< more = m * 2 ^ more := Nat.shiftLeft_eq _ _
  have n1 : 2 ^ 108 ≤ m <<< more := by
    rw [hn, show (108 : Nat) = 52 + 56 from rfl, Nat.pow_add]
    exact Nat.mul_le_mul h (Nat.pow_le_pow_right (by omega) h1)
  have n2 : m <<< more < 2 ^ 110 := by
    rw [hn, show (110 : Nat) = 53 + 57 from rfl, Nat.pow_add]
    exact Nat.mul_lt_mul_of_lt_of_le h' (Nat.pow_le_pow_right (by omega) h2) (Nat.two_pow_pos _)
  generalize m <<< more = n at *
  have h0 : n ≠ 0 := by have := Nat.two_pow_pos 108; omega
  have hb := root_big h0
  have hl := log2_ge n1
  have hs := rootFrom_sq n (n.log2 / 2 + 1) 0 (by omega)
  generalize Datum.rootFrom n (n.log2 / 2 + 1) 0 = w at *
  have hc : (w * w != n).toNat ≤ 1 := Bool.toNat_le _
  have w1 : 2 ^ 54 ≤ w := Nat.le_trans (Nat.pow_le_pow_right (by omega) (by omega)) hb
  have w2 : w < 2 ^ 55 := by
    refine Nat.lt_of_not_le fun hw => ?_
    have := Nat.mul_le_mul hw hw
    rw [← Nat.pow_add] at this
    omega
  have e1 : (2 : Nat) ^ 55 = 2 * 2 ^ 54 := by rw [← Nat.pow_succ']
  have e2 : (2 : Nat) ^ 57 = 4 * 2 ^ 55 := by rw [show (57 : Nat) = 2 + 55 from rfl, Nat.pow_add]
  omega

theorem out_bd {a : Nat} (h1 : 930 ≤ a) (h2 : a ≤ 1050) : 972 ≤ outA a ∧ outA a ≤ 1033 ∧ outA (a + 4) = outA a + 2 ∧ ((a : Int) - 1074 - (moreN a : Int)) / 2 - 1 = (outA a : Int) - 1074 := by
  unfold outA
  rw [more_4]
  have := more_bd a
  obtain ⟨h, hh⟩ := more_even a
  omega

theorem rootV_bd {v : Nat} (h1 : 2 ^ 982 ≤ v) (h2 : v ≤ 2 ^ 1100) : 2 ^ 1027 ≤ rootV v ∧ rootV v ≤ 2 ^ 1090 ∧ rootV (v * 2 ^ 4) = rootV v * 2 ^ 2 := by
  have hv52 : 2 ^ 52 ≤ v := Nat.le_trans (Nat.pow_le_pow_right (by omega) (by omega)) h1
  obtain ⟨m1, m2⟩ := part_spec hv52
  have hl1 := log2_ge h1
  have hl2 : v.log2 ≤ 1100 := by
    have hv : v ≠ 0 := by have := Nat.two_pow_pos 52; omega
    have := Nat.log2_self_le hv
    exact (Nat.pow_le_pow_iff_right (a := 2) (by omega)).1 (Nat.le_trans this h2)
  have a1 : 930 ≤ partA v := by unfold partA; omega
  have a2 : partA v ≤ 1050 := by unfold partA; omega
  obtain ⟨o1, o2, o3, _⟩ := out_bd a1 a2
  obtain ⟨b1, b2⟩ := more_bd (partA v)
  obtain ⟨r1, r2⟩ := rootM_bd m1 m2 b1 b2
  have lo : 2 ^ 1027 ≤ rootM (partM v) (moreN (partA v)) * 2 ^ outA (partA v) := by
    exact mul_pow_ge (c := 1027) (i := 55) (j := 972) r1 o1 rfl
  have hi : rootM (partM v) (moreN (partA v)) * 2 ^ outA (partA v) ≤ 2 ^ 1090 := by
    exact mul_pow_le (c := 1090) (i := 57) (j := 1033) r2 o2 rfl
  have g1 := rN_ge0 double (e := 1027) lo
  have g2 := rN_le0 double (e := 1090) hi
  obtain ⟨p1, p2⟩ := part_mul4 hv52
  refine ⟨by unfold rootV; exact g1, by unfold rootV; exact g2, ?_⟩
  unfold rootV
  rw [p1, p2, more_4, o3, Nat.pow_add, ← Nat.mul_assoc]
  refine rN_scale double 2 ?_
  have t := pow_mono2 (i := double.fractionBits + 0) (j := 1027) (by decide)
  exact Nat.le_trans t lo

theorem double_pow {e : Nat} (h : 52 ≤ e) : mg double ((e - 51) * 4503599627370496) = 2 ^ e := by
  obtain ⟨d, rfl⟩ : ∃ d, e = d + 52 := ⟨e - 52, by omega⟩
  have h2 := mg_KL double d double.binade (by omega) (.inr (Nat.le_refl _))
  have hb : double.binade = 4503599627370496 := by decide
  have hc : double.binade = 2 ^ 52 := by decide
  have e1 : (d + 52 - 51) * 4503599627370496 = d * double.binade + double.binade := by rw [hb]; omega
  rw [e1, h2, hc, ← Nat.pow_add, Nat.add_comm]

theorem Near.le64 {r e : Nat} {V : Int} (h : Near double r V 0) (he : 52 ≤ e) (hV : V.natAbs ≤ 2 ^ e) : rung double r ≤ (e - 51) * 4503599627370496 :=
  h.le (by rw [double_pow he, Nat.pow_zero, Nat.mul_one]; exact hV)
/-- The root of a double. -/
theorem sqrt_val {x : Nat} (hx : rung double x < double.infRung) (hs : sgn double x = false) (h1 : 2 ^ 982 ≤ mg double (rung double x)) (h2 : mg double (rung double x) ≤ 2 ^ 1100) :
    ∃ r, double.sqrt x = some r ∧ rung double r < double.infRung ∧ sgn double r = false ∧ mg double (rung double r) = rootV (mg double (rung double x)) := by
  have hb : double.binade = 2 ^ 52 := by decide
  have hbi : double.binade = 4503599627370496 := by decide
  have hinf : double.infRung = 9218868437227405312 := by decide
  have hlp : double.leastPlace = -1074 := by decide
  have hfb : double.fractionBits = 52 := by decide
  -- the parts
  have hr52 : ¬ rung double x < double.binade := by
    intro h
    unfold mg at h1
    rw [if_pos h] at h1
    have := Nat.pow_le_pow_right (n := 2) (by omega) (show 52 ≤ 982 by omega)
    omega
  have hread : double.read x = .number (sgn double x) (double.binade + rung double x % double.binade) (double.leastPlace + (rung double x / double.binade - 1 : Nat)) := by
    unfold Format.read
    dsimp only
    have e : x % double.signWeight = rung double x := rfl
    rw [e, if_neg hr52, if_pos hx]
    rfl
  have hmg : mg double (rung double x) = (double.binade + rung double x % double.binade) * 2 ^ (rung double x / double.binade - 1) := by
    conv => lhs; unfold mg
    rw [if_neg hr52]
  have hbp := binade_pos double
  have hmod := Nat.mod_lt (rung double x) hbp
  generalize rung double x % double.binade = q at *
  generalize rung double x / double.binade - 1 = a at *
  rw [hs] at hread
  have hv52 : 2 ^ 52 ≤ mg double (rung double x) := Nat.le_trans (Nat.pow_le_pow_right (by omega) (by omega)) h1
  have hm52 : 2 ^ 52 ≤ double.binade + q := by rw [hb]; omega
  have hm53 : double.binade + q < 2 ^ 53 := by rw [show (53 : Nat) = 52 + 1 from rfl, Nat.pow_succ, ← hb]; omega
  have hlog : (double.binade + q).log2 = 52 := (Nat.log2_eq_iff (by have := Nat.two_pow_pos 52; omega)).2 ⟨hm52, hm53⟩
  have hA : partA (mg double (rung double x)) = a := by
    unfold partA
    rw [hmg, log2_scale _ _ (by have := Nat.two_pow_pos 52; omega), hlog]; omega
  have hM : partM (mg double (rung double x)) = double.binade + q := by
    unfold partM
    rw [hA, hmg, Nat.mul_div_cancel _ (Nat.two_pow_pos _)]
  have hbd := rootV_bd h1 h2
  unfold rootV at hbd ⊢
  rw [hA, hM] at hbd ⊢
  have hl2 : (mg double (rung double x)).log2 ≤ 1100 := by
    have hv : mg double (rung double x) ≠ 0 := by have := Nat.two_pow_pos 52; omega
    have := Nat.log2_self_le hv
    exact (Nat.pow_le_pow_iff_right (a := 2) (by omega)).1 (Nat.le_trans this h2)
  have a1 : 930 ≤ a := by have := log2_ge h1; rw [← hA]; unfold partA; omega
  have a2 : a ≤ 1050 := by rw [← hA]; unfold partA; omega
  obtain ⟨o1, o2, o3, o4⟩ := out_bd a1 a2
  clear hmg hA hM h1 h2 hv52 hl2
  generalize double.binade + q = m at *
  have hm0 : m ≠ 0 := by have := Nat.two_pow_pos 52; omega
  have hmore : 2 * (double.fractionBits + 2) - m.log2 + ((double.leastPlace + (a : Int) - ((2 * (double.fractionBits + 2) - m.log2 : Nat) : Int)) % 2).toNat = moreN a := by
    rw [hlog, hfb, hlp]; unfold moreN; omega
  have hsq : double.sqrt x = some (double.nearest false (rootM m (moreN a)) ((outA a : Int) - 1074)) := by
    unfold Format.sqrt
    rw [hread]
    simp only [Datum.root]
    rw [if_neg hm0, if_neg (by decide)]
    rw [hmore, ← o4]
    show some (double.nearest false (rootM m (moreN a)) ((double.leastPlace + (a : Int) - (moreN a : Int)) / 2 - 1)) = _
    rw [hlp, show (-1074 : Int) + (a : Int) = (a : Int) - 1074 by omega]
  have hns := nearest_scale double false (rootM m (moreN a)) ((outA a : Int) - 1074) (outA a)
  rw [show (outA a : Int) - 1074 - (outA a : Int) = double.leastPlace - ((0 : Nat) : Int) by rw [hlp]; omega] at hns
  rw [← hns] at hsq
  generalize rootM m (moreN a) * 2 ^ outA a = n at *
  have hrd := rd_nearest double false n 0 (n : Int) (by omega) (fun h => by symm; exact decide_eq_false (by omega))
  obtain ⟨g1, g2, _⟩ := hbd
  have hn : n ≠ 0 := by
    rintro rfl
    rw [rN_zero] at g1
    have := Nat.two_pow_pos 1027
    omega
  generalize double.nearest false n (double.leastPlace - ((0 : Nat) : Int)) = r at *
  have hnn : n ≤ 2 ^ 1095 := by
    refine Nat.le_of_not_lt fun h => ?_
    have h1 := rN_ge0 double (Nat.le_of_lt h)
    have h2 : (2 : Nat) ^ 1095 ≤ 2 ^ 1090 := Nat.le_trans h1 g2
    have := (Nat.pow_le_pow_iff_right (a := 2) (by omega)).1 h2
    omega
  have hfin : rung double r < double.infRung := by
    have := hrd.near.le64 (e := 1095) (by omega) (by rw [Int.natAbs_natCast]; exact hnn)
    rw [hinf]; omega
  refine ⟨r, hsq, hfin, ?_, ?_⟩
  · rw [hrd.near.sign (by omega)]; exact decide_eq_false (by omega)
  · rw [hrd.ex hfin]; rw [Int.natAbs_natCast]
end Go.Proofs.Ytnibobbfepdeiaa.Fl
namespace Go.Proofs.Ytnibobbfepdeiaa.Fl
open Ieee
set_option linter.unusedVariables false

/-- The root of a single of value s, by way of a double. -/
def lngV (s : Nat) : Nat := if s = 0 then 0 else rN single (rootV (s * 2 ^ 925)) 925
theorem iv_pos {f : Format} {b s : Nat} (h : iv f b = (s : Int)) (hs : 0 < s) : sgn f b = false ∧ mg f (rung f b) = s := by
  unfold iv sg at h
  cases hb : sgn f b
  · rw [hb] at h
    exact ⟨rfl, Int.ofNat.inj (by simpa using h)⟩
  · rw [hb] at h
    simp at h
    omega
theorem iv_zero {f : Format} {b : Nat} (h : iv f b = 0) : rung f b = 0 := by
  unfold iv sg at h
  have : mg f (rung f b) = 0 := by split at h <;> omega
  rcases Nat.eq_zero_or_pos (rung f b) with h0 | h0
  · exact h0
  · have := mg_pos f h0; omega
theorem read_zero {f : Format} {b : Nat} (h : rung f b = 0) : f.read b = .number (sgn f b) 0 f.leastPlace := by
  unfold Format.read
  dsimp only
  have e : b % f.signWeight = rung f b := rfl
  rw [e, h, if_pos (binade_pos f)]
  rfl
theorem write_zero (f : Format) (s : Bool) (p : Int) : f.write (.number s 0 p) = f.word s 0 := by
  show f.nearest s 0 p = _
  unfold Format.nearest; rw [if_pos rfl]
theorem word_zero (f : Format) (s : Bool) : rung f (f.word s 0) = 0 ∧ iv f (f.word s 0) = 0 := by
  have h := rung_word f s (Nat.zero_le f.infRung)
  refine ⟨h, ?_⟩
  unfold iv
  rw [h, mg_zero]
  unfold sg; simp

theorem mul_pow_bd {s i j c d : Nat} (h : 2 ^ i ≤ s) (h' : s ≤ 2 ^ j) (hc : c = i + d) (e : Nat) (he : e = j + d) : 2 ^ c ≤ s * 2 ^ d ∧ s * 2 ^ d ≤ 2 ^ e := ⟨mul_pow_ge h (Nat.le_refl _) hc, mul_pow_le h' (Nat.le_refl _) he⟩

theorem lng_bd {s : Nat} (h : 2 ^ 57 ≤ s) (h' : s ≤ 2 ^ 175) : 2 ^ 102 ≤ lngV s ∧ lngV s ≤ 2 ^ 165 ∧ lngV (s * 2 ^ 4) = lngV s * 2 ^ 2 := by
  have hs : s ≠ 0 := by have := Nat.two_pow_pos 57; omega
  have hs4 : s * 2 ^ 4 ≠ 0 := by omega
  obtain ⟨v1, v2⟩ := mul_pow_bd (d := 925) (c := 982) h h' rfl 1100 rfl
  obtain ⟨r1, r2, r3⟩ := rootV_bd v1 v2
  have e : s * 2 ^ 4 * 2 ^ 925 = s * 2 ^ 925 * 2 ^ 4 := Nat.mul_right_comm _ _ _
  unfold lngV
  rw [if_neg hs, if_neg hs4, e, r3]
  generalize rootV (s * 2 ^ 925) = R at *
  have t1 := pow_at_le (e := 1027) (e' := 102 + 925) rfl r1
  have t2 := pow_at_ge (e := 1090) (e' := 165 + 925) rfl r2
  have g1 := rN_ge_pow single (e := 102) (B := 925) t1
  have g2 := rN_le_pow single (e := 165) (B := 925) t2
  refine ⟨g1, g2, rN_scale single 2 ?_⟩
  have t := pow_mono2 (i := single.fractionBits + 925) (j := 1027) (by decide)
  exact Nat.le_trans t r1

theorem mul_zero_at {x y c : Nat} (h : x = y * c) (hy : y = 0) : x = 0 := by rw [h, hy, Nat.zero_mul]
/-- What a length comes to. -/
theorem Fv.lng {X : Option Nat} {s : Nat} (hX : Fv X (s : Int)) (h : s = 0 ∨ 2 ^ 57 ≤ s) (h' : s ≤ 2 ^ 175) : Fv (nar (sqrtV (wid X))) (lngV s : Int) := by
  obtain ⟨b, rfl, hb, hv⟩ := hX
  obtain ⟨w1, w2, w3⟩ := W_fin hb
  rcases h with rfl | h
  · have h0 := iv_zero hv
    have hw0 : rung double (W b) = 0 := by
      have hz : mg single (rung single b) = 0 := by rw [h0, mg_zero]
      have w1 := mul_zero_at w1 hz
      rcases Nat.eq_zero_or_pos (rung double (W b)) with h1 | h1
      · exact h1
      · have := mg_pos double h1; omega
    have e1 : double.sqrt (W b) = some (double.word (sgn double (W b)) 0) := by
      unfold Format.sqrt
      rw [read_zero hw0]
      simp only [Datum.root, if_true]
      show some (double.write _) = _
      rw [write_zero]
    have e2 : nar (sqrtV (wid (some b))) = some (N (double.word (sgn double (W b)) 0)) := by
      show (double.sqrt (W b)).map N = _
      rw [e1]; rfl
    have e3 : N (double.word (sgn double (W b)) 0) = single.word (sgn double (double.word (sgn double (W b)) 0)) 0 := by
      unfold N
      rw [read_zero (word_zero double _).1, write_zero]
    rw [e2, e3]
    obtain ⟨z1, z2⟩ := word_zero single (sgn double (double.word (sgn double (W b)) 0))
    exact ⟨_, rfl, by rw [z1]; decide, by rw [z2]; rfl⟩
  · have hs : 0 < s := by have := Nat.two_pow_pos 57; omega
    obtain ⟨s1, s2⟩ := iv_pos hv hs
    rw [s2] at w1
    obtain ⟨v1, v2⟩ := mul_pow_bd (d := 925) (c := 982) h h' rfl 1100 rfl
    rw [← w1] at v1 v2
    obtain ⟨r, hr, r1, r2, r3⟩ := sqrt_val w3 (by rw [w2, s1]) v1 v2
    have hbd := rootV_bd v1 v2
    have e2 : nar (sqrtV (wid (some b))) = some (N r) := by
      show (double.sqrt (W b)).map N = _
      rw [hr]; rfl
    rw [e2]
    obtain ⟨m, j, q1, q2⟩ := read_fin double r1
    have hN : N r = single.nearest false (rootV (s * 2 ^ 925)) (single.leastPlace - (925 : Nat)) := by
      unfold N
      rw [q1, r2]
      show single.nearest false m (double.leastPlace + (j : Int)) = _
      have := nearest_scale single false m (double.leastPlace + (j : Int)) j
      rw [← this, q2, r3, w1]
      congr 1
      have a : single.leastPlace = -149 := by decide
      have c : double.leastPlace = -1074 := by decide
      rw [a, c]; omega
    rw [w1] at hbd
    have hrd := rd_nearest single false (rootV (s * 2 ^ 925)) 925 (rootV (s * 2 ^ 925) : Int) (by omega) (fun h => by symm; exact decide_eq_false (by omega))
    rw [← hN] at hrd
    have t2 := pow_at_ge (e := 1090) (e' := 165 + 925) rfl hbd.2.1
    have t3 := Nat.le_trans (Nat.le_of_eq (Int.natAbs_natCast (rootV (s * 2 ^ 925)))) t2
    have hfin := Rd.fin (e := 165) hrd t3 (by omega) (by omega)
    refine ⟨_, rfl, hfin, ?_⟩
    rw [hrd.iv hfin]
    unfold lngV rI
    rw [if_neg (by omega), if_neg (by omega), Int.natAbs_natCast]
end Go.Proofs.Ytnibobbfepdeiaa.Fl
namespace Go.Proofs.Ytnibobbfepdeiaa.Fl
open Ieee
set_option linter.unusedVariables false

def dI (u v : Int) : Int := rI single (u - v) 0
def mI (u v : Int) : Int := rI single (u * v) 149
def aI (u v : Int) : Int := rI single (u + v) 0
/-- What is divided and bounded so. -/
structure In2 (j e : Nat) (v : Int) : Prop where
  dv : Dv j v
  le : v.natAbs ≤ 2 ^ e
theorem In2.up {j e e' : Nat} {v : Int} (h : In2 j e v) (he : e ≤ e') : In2 j e' v := ⟨h.dv, Nat.le_trans h.le (pow_mono2 he)⟩
theorem In2.d {j e : Nat} {u v : Int} (h : In2 j e u) (h' : In2 j e v) : In2 j (e + 1) (dI u v) :=
  ⟨by have := Dv.rI (f := single) (B := 0) (Nat.zero_le _) (h.dv.sub h'.dv); rwa [Nat.sub_zero] at this, rI_le (B := 0) (natAbs_sub_le h.le h'.le)⟩
theorem In2.a {j e : Nat} {u v : Int} (h : In2 j e u) (h' : In2 j e v) : In2 j (e + 1) (aI u v) :=
  ⟨by have := Dv.rI (f := single) (B := 0) (Nat.zero_le _) (h.dv.add h'.dv); rwa [Nat.sub_zero] at this, rI_le (B := 0) (natAbs_add_le h.le h'.le)⟩
theorem In2.m {j j' e e' i o : Nat} {u v : Int} (h : In2 j e u) (h' : In2 j' e' v) (hj : i + 149 = j + j') (ho : o + 149 = e + e') : In2 i o (mI u v) := by
  have hd : Dv (i + 149) (u * v) := by rw [hj]; exact h.dv.mul h'.dv
  have hl : (u * v).natAbs ≤ 2 ^ (o + 149) := by rw [ho]; exact natAbs_mul_le h.le h'.le
  refine ⟨?_, rI_le hl⟩
  have := Dv.rI (f := single) (B := 149) (Nat.le_add_left _ _) hd
  rwa [Nat.add_sub_cancel] at this
theorem Fv.d {X Y : Option Nat} {u v : Int} {j e : Nat} (hx : Fv X u) (hy : Fv Y v) (h : In2 j e u) (h' : In2 j e v) (h1 : 22 ≤ e) (h2 : e ≤ 269) : Fv (bin .sub .f32 X Y) (dI u v) :=
  hx.sub hy (e + 1) (natAbs_sub_le h.le h'.le) (by omega) (by omega)
theorem Fv.a {X Y : Option Nat} {u v : Int} {j e : Nat} (hx : Fv X u) (hy : Fv Y v) (h : In2 j e u) (h' : In2 j e v) (h1 : 22 ≤ e) (h2 : e ≤ 269) : Fv (bin .add .f32 X Y) (aI u v) :=
  hx.add hy (e + 1) (natAbs_add_le h.le h'.le) (by omega) (by omega)
theorem Fv.m {X Y : Option Nat} {u v : Int} {j j' e e' o : Nat} (hx : Fv X u) (hy : Fv Y v) (h : In2 j e u) (h' : In2 j' e' v) (ho : o + 149 = e + e') (h1 : 23 ≤ o) (h2 : o ≤ 270) : Fv (bin .mul .f32 X Y) (mI u v) :=
  hx.mul hy o (by rw [ho]; exact natAbs_mul_le h.le h'.le) h1 h2

theorem dI_neg (u v : Int) : dI v u = -dI u v := by unfold dI; rw [← rI_neg]; congr 1; omega
theorem dI_scale {j e : Nat} {u v : Int} (k : Nat) (h : In2 j e u) (h' : In2 j e v) (hj : 23 ≤ j) : dI (u * ((2 ^ k : Nat) : Int)) (v * ((2 ^ k : Nat) : Int)) = dI u v * ((2 ^ k : Nat) : Int) := by
  unfold dI
  rw [← Int.sub_mul]
  refine rI_scale single k ((h.dv.sub h'.dv).big.imp id fun h3 => Nat.le_trans (pow_mono2 ?_) h3)
  exact hj
theorem aI_scale {u v : Int} (k : Nat) (h : u + v = 0 ∨ 2 ^ 23 ≤ (u + v).natAbs) : aI (u * ((2 ^ k : Nat) : Int)) (v * ((2 ^ k : Nat) : Int)) = aI u v * ((2 ^ k : Nat) : Int) := by
  unfold aI
  rw [← Int.add_mul]
  exact rI_scale single k h
theorem mI_scale {u v : Int} (i k : Nat) (h : u * v = 0 ∨ 2 ^ 172 ≤ (u * v).natAbs) : mI (u * ((2 ^ i : Nat) : Int)) (v * ((2 ^ k : Nat) : Int)) = mI u v * ((2 ^ (i + k) : Nat) : Int) := by
  unfold mI
  have e : u * ((2 ^ i : Nat) : Int) * (v * ((2 ^ k : Nat) : Int)) = u * v * ((2 ^ (i + k) : Nat) : Int) := by rw [Nat.pow_add, Int.natCast_mul]; simp only [Int.mul_assoc, Int.mul_left_comm]
  rw [e]
  exact rI_scale single (i + k) h

/-- One limb of the vector across two sides. -/
def crI (u1 v2 u2 v1 : Int) : Int := dI (mI u1 v2) (mI u2 v1)
theorem crI_swap (u1 v2 u2 v1 : Int) : crI v1 u2 v2 u1 = -crI u1 v2 u2 v1 := by
  unfold crI
  rw [← dI_neg]
  unfold mI
  rw [Int.mul_comm v1 u2, Int.mul_comm v2 u1]
theorem crI_in {k : Nat} {u1 v2 u2 v1 : Int} (h1 : In2 (126 + k) (152 + k) u1) (h2 : In2 (126 + k) (152 + k) v2) (h3 : In2 (126 + k) (152 + k) u2) (h4 : In2 (126 + k) (152 + k) v1) : In2 (103 + 2 * k) (156 + 2 * k) (crI u1 v2 u2 v1) := by
  have a := h1.m h2 (i := 103 + 2 * k) (o := 155 + 2 * k) (by omega) (by omega)
  have b := h3.m h4 (i := 103 + 2 * k) (o := 155 + 2 * k) (by omega) (by omega)
  have := a.d b
  rwa [show 155 + 2 * k + 1 = 156 + 2 * k by omega] at this
theorem crI_val {k : Nat} (hk : k ≤ 1) {U1 V2 U2 V1 : Option Nat} {u1 v2 u2 v1 : Int} (f1 : Fv U1 u1) (f2 : Fv V2 v2) (f3 : Fv U2 u2) (f4 : Fv V1 v1) (h1 : In2 (126 + k) (152 + k) u1) (h2 : In2 (126 + k) (152 + k) v2) (h3 : In2 (126 + k) (152 + k) u2) (h4 : In2 (126 + k) (152 + k) v1) :
    Fv (bin .sub .f32 (bin .mul .f32 U1 V2) (bin .mul .f32 U2 V1)) (crI u1 v2 u2 v1) := by
  have a := h1.m h2 (i := 103 + 2 * k) (o := 155 + 2 * k) (by omega) (by omega)
  have b := h3.m h4 (i := 103 + 2 * k) (o := 155 + 2 * k) (by omega) (by omega)
  exact (f1.m f2 h1 h2 (o := 155 + 2 * k) (by omega) (by omega) (by omega)).d (f3.m f4 h3 h4 (o := 155 + 2 * k) (by omega) (by omega) (by omega)) a b (by omega) (by omega)
theorem crI_dbl {u1 v2 u2 v1 : Int} (h1 : In2 126 152 u1) (h2 : In2 126 152 v2) (h3 : In2 126 152 u2) (h4 : In2 126 152 v1) :
    crI (u1 * ((2 ^ 1 : Nat) : Int)) (v2 * ((2 ^ 1 : Nat) : Int)) (u2 * ((2 ^ 1 : Nat) : Int)) (v1 * ((2 ^ 1 : Nat) : Int)) = crI u1 v2 u2 v1 * ((2 ^ 2 : Nat) : Int) := by
  have a := h1.m h2 (i := 103) (o := 155) (by omega) (by omega)
  have b := h3.m h4 (i := 103) (o := 155) (by omega) (by omega)
  unfold crI
  rw [mI_scale 1 1 ((h1.dv.mul h2.dv).big.imp id fun h => Nat.le_trans (pow_mono2 (by omega)) h), mI_scale 1 1 ((h3.dv.mul h4.dv).big.imp id fun h => Nat.le_trans (pow_mono2 (by omega)) h)]
  exact dI_scale 2 a b (by omega)

/-- What is under the root. -/
def innI (a b c : Int) : Int := aI (aI (mI a a) (mI b b)) (mI c c)
theorem mI_nonneg (a : Int) : 0 ≤ mI a a := rI_nonneg (by rw [← Int.natAbs_mul_self]; exact Int.natCast_nonneg _)
theorem aI_nonneg {a b : Int} (h : 0 ≤ a) (h' : 0 ≤ b) : 0 ≤ aI a b := rI_nonneg (Int.add_nonneg h h')
theorem innI_nonneg (a b c : Int) : 0 ≤ innI a b c := aI_nonneg (aI_nonneg (mI_nonneg a) (mI_nonneg b)) (mI_nonneg c)
theorem mI_neg (a : Int) : mI (-a) (-a) = mI a a := by unfold mI; rw [Int.neg_mul_neg]
theorem innI_neg (a b c : Int) : innI (-a) (-b) (-c) = innI a b c := by unfold innI; rw [mI_neg, mI_neg, mI_neg]
theorem innI_in {k : Nat} {a b c : Int} (h1 : In2 (103 + 2 * k) (156 + 2 * k) a) (h2 : In2 (103 + 2 * k) (156 + 2 * k) b) (h3 : In2 (103 + 2 * k) (156 + 2 * k) c) : In2 (57 + 4 * k) (165 + 4 * k) (innI a b c) := by
  have a' := h1.m h1 (i := 57 + 4 * k) (o := 163 + 4 * k) (by omega) (by omega)
  have b' := h2.m h2 (i := 57 + 4 * k) (o := 163 + 4 * k) (by omega) (by omega)
  have c' := h3.m h3 (i := 57 + 4 * k) (o := 163 + 4 * k) (by omega) (by omega)
  have d := a'.a b'
  rw [show 163 + 4 * k + 1 = 164 + 4 * k by omega] at d
  have := d.a (c'.up (e' := 164 + 4 * k) (by omega))
  rwa [show 164 + 4 * k + 1 = 165 + 4 * k by omega] at this
theorem innI_val {k : Nat} (hk : k ≤ 1) {X Y Z : Option Nat} {a b c : Int} (f1 : Fv X a) (f2 : Fv Y b) (f3 : Fv Z c) (h1 : In2 (103 + 2 * k) (156 + 2 * k) a) (h2 : In2 (103 + 2 * k) (156 + 2 * k) b) (h3 : In2 (103 + 2 * k) (156 + 2 * k) c) : Fv (innV X Y Z) (innI a b c) := by
  have a' := h1.m h1 (i := 57 + 4 * k) (o := 163 + 4 * k) (by omega) (by omega)
  have b' := h2.m h2 (i := 57 + 4 * k) (o := 163 + 4 * k) (by omega) (by omega)
  have c' := h3.m h3 (i := 57 + 4 * k) (o := 163 + 4 * k) (by omega) (by omega)
  have d := a'.a b'
  have fa := f1.m f1 h1 h1 (o := 163 + 4 * k) (by omega) (by omega) (by omega)
  have fb := f2.m f2 h2 h2 (o := 163 + 4 * k) (by omega) (by omega) (by omega)
  have fc := f3.m f3 h3 h3 (o := 163 + 4 * k) (by omega) (by omega) (by omega)
  exact (fa.a fb a' b' (by omega) (by omega)).a fc d (c'.up (by omega)) (by omega) (by omega)
theorem innI_quad {a b c : Int} (h1 : In2 103 156 a) (h2 : In2 103 156 b) (h3 : In2 103 156 c) :
    innI (a * ((2 ^ 2 : Nat) : Int)) (b * ((2 ^ 2 : Nat) : Int)) (c * ((2 ^ 2 : Nat) : Int)) = innI a b c * ((2 ^ 4 : Nat) : Int) := by
  have a' := h1.m h1 (i := 57) (o := 163) (by omega) (by omega)
  have b' := h2.m h2 (i := 57) (o := 163) (by omega) (by omega)
  have c' := h3.m h3 (i := 57) (o := 163) (by omega) (by omega)
  have d := a'.a b'
  unfold innI
  rw [mI_scale 2 2 ((h1.dv.mul h1.dv).big.imp id fun h => Nat.le_trans (pow_mono2 (by omega)) h), mI_scale 2 2 ((h2.dv.mul h2.dv).big.imp id fun h => Nat.le_trans (pow_mono2 (by omega)) h), mI_scale 2 2 ((h3.dv.mul h3.dv).big.imp id fun h => Nat.le_trans (pow_mono2 (by omega)) h)]
  rw [aI_scale 4 ((a'.dv.add b'.dv).big.imp id fun h => Nat.le_trans (pow_mono2 (by omega)) h), aI_scale 4 ((d.dv.add c'.dv).big.imp id fun h => Nat.le_trans (pow_mono2 (by omega)) h)]

/-! ### places -/
structure P3 where
  x : Int
  y : Int
  z : Int
/-- The vector across two sides. -/
def crossI (a p q : P3) : P3 :=
  ⟨crI (dI p.y a.y) (dI q.z a.z) (dI p.z a.z) (dI q.y a.y), crI (dI p.z a.z) (dI q.x a.x) (dI p.x a.x) (dI q.z a.z), crI (dI p.x a.x) (dI q.y a.y) (dI p.y a.y) (dI q.x a.x)⟩
def P3.neg (a : P3) : P3 := ⟨-a.x, -a.y, -a.z⟩
def P3.up (k : Nat) (a : P3) : P3 := ⟨a.x * ((2 ^ k : Nat) : Int), a.y * ((2 ^ k : Nat) : Int), a.z * ((2 ^ k : Nat) : Int)⟩
structure P3.In (j e : Nat) (a : P3) : Prop where
  x : In2 j e a.x
  y : In2 j e a.y
  z : In2 j e a.z
theorem cross_swap (a p q : P3) : crossI a q p = (crossI a p q).neg := by
  show P3.mk _ _ _ = P3.mk _ _ _
  rw [P3.mk.injEq]
  exact ⟨crI_swap _ _ _ _, crI_swap _ _ _ _, crI_swap _ _ _ _⟩
theorem cross_dbl {a p q : P3} (ha : a.In 126 151) (hp : p.In 126 151) (hq : q.In 126 151) : crossI (a.up 1) (p.up 1) (q.up 1) = (crossI a p q).up 2 := by
  unfold crossI P3.up
  dsimp only
  rw [dI_scale 1 hp.x ha.x (by omega), dI_scale 1 hp.y ha.y (by omega), dI_scale 1 hp.z ha.z (by omega), dI_scale 1 hq.x ha.x (by omega), dI_scale 1 hq.y ha.y (by omega), dI_scale 1 hq.z ha.z (by omega)]
  rw [crI_dbl (hp.y.d ha.y) (hq.z.d ha.z) (hp.z.d ha.z) (hq.y.d ha.y), crI_dbl (hp.z.d ha.z) (hq.x.d ha.x) (hp.x.d ha.x) (hq.z.d ha.z), crI_dbl (hp.x.d ha.x) (hq.y.d ha.y) (hp.y.d ha.y) (hq.x.d ha.x)]
theorem cross_in {k : Nat} {a p q : P3} (ha : a.In (126 + k) (151 + k)) (hp : p.In (126 + k) (151 + k)) (hq : q.In (126 + k) (151 + k)) : (crossI a p q).In (103 + 2 * k) (156 + 2 * k) := by
  have d : ∀ {u v : Int}, In2 (126 + k) (151 + k) u → In2 (126 + k) (151 + k) v → In2 (126 + k) (152 + k) (dI u v) := fun h h' => by have := h.d h'; rwa [show 151 + k + 1 = 152 + k by omega] at this
  exact ⟨crI_in (d hp.y ha.y) (d hq.z ha.z) (d hp.z ha.z) (d hq.y ha.y), crI_in (d hp.z ha.z) (d hq.x ha.x) (d hp.x ha.x) (d hq.z ha.z), crI_in (d hp.x ha.x) (d hq.y ha.y) (d hp.y ha.y) (d hq.x ha.x)⟩
/-- The length of the vector across two sides. -/
def lenI (c : P3) : Nat := lngV (innI c.x c.y c.z).toNat
theorem lenI_neg (c : P3) : lenI c.neg = lenI c := by unfold lenI P3.neg; dsimp only; rw [innI_neg]
theorem inn_nat {k : Nat} {c : P3} (h : c.In (103 + 2 * k) (156 + 2 * k)) (hk : k ≤ 1) : ((innI c.x c.y c.z).toNat = 0 ∨ 2 ^ 57 ≤ (innI c.x c.y c.z).toNat) ∧ (innI c.x c.y c.z).toNat ≤ 2 ^ 175 := by
  have hn := innI_nonneg c.x c.y c.z
  have hi := innI_in h.x h.y h.z
  have e : (innI c.x c.y c.z).natAbs = (innI c.x c.y c.z).toNat := by omega
  have h1 := hi.dv.big
  have h2 := hi.le
  rw [e] at h1 h2
  refine ⟨h1.imp (fun h => by omega) (fun h => Nat.le_trans (pow_mono2 (by omega)) h), Nat.le_trans h2 (pow_mono2 (by omega))⟩
theorem lenI_bd {k : Nat} {c : P3} (h : c.In (103 + 2 * k) (156 + 2 * k)) (hk : k ≤ 1) : (lenI c = 0 ∨ 2 ^ 102 ≤ lenI c) ∧ lenI c ≤ 2 ^ 165 := by
  obtain ⟨h1, h2⟩ := inn_nat h hk
  unfold lenI
  rcases h1 with h1 | h1
  · rw [h1]; exact ⟨.inl rfl, Nat.zero_le _⟩
  · obtain ⟨a, b, _⟩ := lng_bd h1 h2
    exact ⟨.inr a, b⟩
theorem lenI_quad {c : P3} (h : c.In 103 156) : lenI (c.up 2) = lenI c * 2 ^ 2 := by
  obtain ⟨h1, h2⟩ := inn_nat (k := 0) h (by omega)
  have hn := innI_nonneg c.x c.y c.z
  unfold lenI P3.up
  dsimp only
  rw [innI_quad h.x h.y h.z]
  have e : (innI c.x c.y c.z * ((2 ^ 4 : Nat) : Int)).toNat = (innI c.x c.y c.z).toNat * 2 ^ 4 := by omega
  rw [e]
  rcases h1 with h1 | h1
  · rw [h1]; rfl
  · exact (lng_bd h1 h2).2.2
theorem lenI_val {k : Nat} {c : P3} (h : c.In (103 + 2 * k) (156 + 2 * k)) (hk : k ≤ 1) {X Y Z : Option Nat} (f1 : Fv X c.x) (f2 : Fv Y c.y) (f3 : Fv Z c.z) : Fv (longV X Y Z) (lenI c : Int) := by
  obtain ⟨h1, h2⟩ := inn_nat h hk
  have hv := innI_val hk f1 f2 f3 h.x h.y h.z
  have hn := innI_nonneg c.x c.y c.z
  have e : innI c.x c.y c.z = ((innI c.x c.y c.z).toNat : Int) := by omega
  rw [e] at hv
  exact hv.lng h1 h2
end Go.Proofs.Ytnibobbfepdeiaa.Fl
namespace Go.Proofs.Ytnibobbfepdeiaa.Msh
open Fl Go.RowKit Go.Proofs.YtnibobbfepdeiaaW.PrintWords Go.Proofs.Ytnibobbfepdeiaa.PMesh
set_option linter.unusedVariables false

theorem validB_iff {n : Nat} {T : List (List Int)} : validB n T = true ↔ n ≤ 64 ∧ T.length ≤ 128 ∧ T.all (triB n) = true := by simp [validB, and_assoc]

end Go.Proofs.Ytnibobbfepdeiaa.Msh
namespace Go.Proofs.Ytnibobbfepdeiaa
open Fl Go.RowKit Go.Proofs.YtnibobbfepdeiaaW.PrintWords Go.Proofs.Ytnibobbfepdeiaa.PMesh Msh
set_option linter.unusedVariables false

/-- The values of the vector across two sides. -/
def crossV (a x y : S59) : Option Nat × Option Nat × Option Nat :=
  let u0 := bin .sub .f32 (val .f32 x.f0) (val .f32 a.f0); let u1 := bin .sub .f32 (val .f32 x.f1) (val .f32 a.f1); let u2 := bin .sub .f32 (val .f32 x.f2) (val .f32 a.f2)
  let v0 := bin .sub .f32 (val .f32 y.f0) (val .f32 a.f0); let v1 := bin .sub .f32 (val .f32 y.f1) (val .f32 a.f1); let v2 := bin .sub .f32 (val .f32 y.f2) (val .f32 a.f2)
  (bin .sub .f32 (bin .mul .f32 u1 v2) (bin .mul .f32 u2 v1), bin .sub .f32 (bin .mul .f32 u2 v0) (bin .mul .f32 u0 v2), bin .sub .f32 (bin .mul .f32 u0 v1) (bin .mul .f32 u1 v0))
/-- Three floats with these values are handed back. -/
def RetV (X : Option Nat × Option Nat × Option Nat) (E : Ending) : Prop := ∃ p q r, E = .returned (.agg #[.float .f32 p, .float .f32 q, .float .f32 r]) ∧ FR .f32 p X.1 ∧ FR .f32 q X.2.1 ∧ FR .f32 r X.2.2

/-- What a region that reads five cells keeps. -/
theorem keepc5 {w W : World} {a0 a1 a2 a3 a4 : Addr} {v0 v1 v2 v3 v4 : Value} (h0 : w.cell? a0 = some v0) (h1 : w.cell? a1 = some v1) (h2 : w.cell? a2 = some v2) (h3 : w.cell? a3 = some v3) (h4 : w.cell? a4 = some v4) (hb : Below w.heap.size w W) :
    W.cell? a0 = some v0 ∧ W.cell? a1 = some v1 ∧ W.cell? a2 = some v2 ∧ W.cell? a3 = some v3 ∧ W.cell? a4 = some v4 ∧ Below w.heap.size w W :=
  ⟨(hb.cell (World.block_lt_of_cell? _ _ h0)).trans h0, (hb.cell (World.block_lt_of_cell? _ _ h1)).trans h1, (hb.cell (World.block_lt_of_cell? _ _ h2)).trans h2, (hb.cell (World.block_lt_of_cell? _ _ h3)).trans h3, (hb.cell (World.block_lt_of_cell? _ _ h4)).trans h4, hb⟩
theorem lastc5 {w W : World} {a0 a1 a2 a3 a4 : Addr} {v0 v1 v2 v3 v4 : Value} (h : W.cell? a0 = some v0 ∧ W.cell? a1 = some v1 ∧ W.cell? a2 = some v2 ∧ W.cell? a3 = some v3 ∧ W.cell? a4 = some v4 ∧ Below w.heap.size w W) : Below w.heap.size w W := h.2.2.2.2.2

/-- A block of three cells that can be written. -/
def C3E (W : World) (g : Nat) : Prop := ∃ v0 v1 v2, Cells3 W g v0 v1 v2
theorem C3E.below {w W : World} {g : Nat} (h : C3E w g) (hb : Below w.heap.size w W) : C3E W g := by obtain ⟨_, _, _, h⟩ := h; exact ⟨_, _, _, h.below hb⟩
theorem C3E.drew {w : World} {g : Nat} (h : C3E w g) : C3E w.drew g := h
theorem C3E.set3 {w : World} {g : Nat} {u0 u1 u2 : Value} (h : C3E w g) : C3E (((w.setCell ⟨g, 0, none⟩ u0).setCell ⟨g, 1, none⟩ u1).setCell ⟨g, 2, none⟩ u2) g := by obtain ⟨_, _, _, h⟩ := h; exact ⟨_, _, _, h.set⟩
theorem kept_cell {w W : World} {g : Nat} {a : Addr} {v : Value} (hk : Kept w W (fun k => k = g)) (h : w.cell? a = some v) (hne : a.block ≠ g) : W.cell? a = some v := cell_kept h hk hne
theorem old_cell {w W : World} {a : Addr} {v : Value} (hb : Below w.heap.size w W) (h : w.cell? a = some v) : W.cell? a = some v := (hb.cell (World.block_lt_of_cell? _ _ h)).trans h

set_option maxHeartbeats 4000000 in
theorem impl_normalOf (A : Option Addr) (c : Nat) (Q : List S59) (v1 : Value) (C : Option Addr) (cc : Nat) (t : List Int) (w : World) (hQ : Kd.C k59 w A Q.length Q) (hC : Kd.C (Kd.int .i64) w C t.length t) (h3 : t.length = 3)
    (i0 : 0 ≤ rd t 0) (j0 : rd t 0 < Q.length) (i1 : 0 ≤ rd t 1) (j1 : rd t 1 < Q.length) (i2 : 0 ≤ rd t 2) (j2 : rd t 2 < Q.length) :
    Calls Try.prog 73 #[.agg #[.slice A Q.length c, v1], .slice C t.length cc] w fun E w' => RetV (crossV (rd_T59 Q (rd t 0)) (rd_T59 Q (rd t 1)) (rd_T59 Q (rd t 2))) E ∧ Below w.heap.size w w' := by
  obtain ⟨ca, rfl, g0⟩ := Kd.at_int hC 0 (by omega) (by omega)
  obtain ⟨_, e1, g1⟩ := Kd.at_int hC 1 (by omega) (by omega)
  obtain ⟨_, e2, g2⟩ := Kd.at_int hC 2 (by omega) (by omega)
  cases e1; cases e2
  replace g0 : w.cell? ca = some (.int .i64 (rd t 0)) := g0
  replace g1 : w.cell? ⟨ca.block, ca.off + 1, none⟩ = some (.int .i64 (rd t 1)) := g1
  replace g2 : w.cell? ⟨ca.block, ca.off + 2, none⟩ = some (.int .i64 (rd t 2)) := g2
  obtain ⟨pa, rfl, x0, x1, x2⟩ := at_T59 hQ _ i0 j0
  obtain ⟨_, e3, y0, y1, y2⟩ := at_T59 hQ _ i1 j1
  obtain ⟨_, e4, z0, z1, z2⟩ := at_T59 hQ _ i2 j2
  cases e3; cases e4
  generalize rd_T59 Q (rd t 0) = X at *
  generalize rd_T59 Q (rd t 1) = Y at *
  generalize rd_T59 Q (rd t 2) = Z at *
  generalize rd t 0 = t0 at *
  generalize rd t 1 = t1 at *
  generalize rd t 2 = t2 at *
  generalize Q.length = n at *
  rw [h3]
  clear hQ hC h3
  replace i0 := eq_true i0; replace i1 := eq_true i1; replace i2 := eq_true i2; replace j0 := eq_true j0; replace j1 := eq_true j1; replace j2 := eq_true j2
  obtain ⟨W1, hW1⟩ : ∃ W, W = (w.alloc (.cells #[.slice (some pa) n c, v1] 30)).alloc (.cells #[.float .f32 0, .float .f32 0, .float .f32 0] 59) := ⟨_, rfl⟩
  have HB1 : Below w.heap.size w W1 := by rw [hW1]; (repeat (first | exact Below.refl _ _ | assumption | (refine Below.drewN ?_ _) | (refine Below.setCell ?_ (by first | (simp; done) | (simp; omega)) _) | (refine Below.drew ?_) | (refine Below.alloc ?_ (by first | (simp; done) | (simp; omega)) _)))
  have b0 : W1.cell? ⟨w.heap.size, 0, none⟩ = some (.slice (some pa) n c) := by rw [hW1]; simp [go_sem]
  have G0 := (HB1.cell (World.block_lt_of_cell? _ _ g0)).trans g0
  have X0 := (HB1.cell (World.block_lt_of_cell? _ _ x0)).trans x0
  have X1 := (HB1.cell (World.block_lt_of_cell? _ _ x1)).trans x1
  have X2 := (HB1.cell (World.block_lt_of_cell? _ _ x2)).trans x2
  have K1 := Lib.hid (fun (W : World) (hb : Below W1.heap.size W1 W) => keepc5 b0 G0 X0 X1 X2 hb)
  have S1 := keepc5 b0 G0 X0 X1 X2 (Below.refl _ _)
  clear b0 G0 X0 X1 X2
  go_enter Try.func73, Try.ntmps73
  go_wp2_with fail
  rw [← hW1]
  have HW1 := Lib.hid hW1
  clear hW1
  go_region_held3 (fun W => W.cell? ⟨w.heap.size, 0, none⟩ = some (.slice (some pa) n c) ∧ W.cell? ca = some (.int .i64 t0) ∧ W.cell? (pa.add (t0.toNat * 3)) = some (.float .f32 X.f0) ∧ W.cell? ⟨(pa.add (t0.toNat * 3)).block, (pa.add (t0.toNat * 3)).off + 1, none⟩ = some (.float .f32 X.f1) ∧ W.cell? ⟨(pa.add (t0.toNat * 3)).block, (pa.add (t0.toNat * 3)).off + 2, none⟩ = some (.float .f32 X.f2) ∧ Below W1.heap.size W1 W)
    (first | with_reducible assumption | (refine K1.out _ ?_; repeat (first | exact Below.refl _ _ | (with_reducible exact lastc5 (by with_reducible assumption)) | (refine Below.drewN ?_ _) | (refine Below.setCell ?_ (by first | (simp; done) | (simp; omega)) _) | (refine Below.drew ?_) | (refine Below.alloc ?_ (by first | (simp; done) | (simp; omega)) _))))
    (first | fail)
  rename_i Q' K' hK' hH
  refine hK' _ _ ?_
  clear hK' K' hH
  obtain ⟨W2, hW2⟩ : ∃ W, W = (W1.alloc (.cells #[.float .f32 X.f0, .float .f32 X.f1, .float .f32 X.f2] 59)).drew := ⟨_, rfl⟩
  have hs1 : W1.heap.size = w.heap.size + 2 := by rw [HW1.out]; simp
  have HB2 : Below w.heap.size w W2 := by rw [hW2]; exact Below.drew (Below.alloc HB1 (by omega) _)
  have HB12 : Below W1.heap.size W1 W2 := by rw [hW2]; exact Below.drew (Below.alloc (Below.refl _ _) (Nat.le_refl _) _)
  have hs2 : W2.heap.size = w.heap.size + 3 := by rw [hW2]; simp [hs1]
  have b0 : W2.cell? ⟨w.heap.size, 0, none⟩ = some (.slice (some pa) n c) := old_cell HB12 S1.1
  have hc3 : C3E W2 (w.heap.size + 1) := by
    refine C3E.below ?_ HB12
    refine ⟨.float .f32 0, .float .f32 0, .float .f32 0, ?_⟩
    have := Cells3.new (w.alloc (.cells #[.slice (some pa) n c, v1] 30)) (.float .f32 0) (.float .f32 0) (.float .f32 0) 59
    rw [← HW1.out] at this
    simpa using this
  obtain ⟨x0', x1', x2', xz⟩ : Cells3 W2 W1.heap.size (.float .f32 X.f0) (.float .f32 X.f1) (.float .f32 X.f2) := by rw [hW2]; exact Cells3.drew (Cells3.new W1 _ _ _ _)
  have K2 := Lib.hid (fun (W : World) (hk : Kept W2 W (fun k => k = w.heap.size + 1)) (hc : C3E W (w.heap.size + 1)) (hb : Below w.heap.size w W) =>
    (⟨kept_cell hk b0 (by show w.heap.size ≠ _; omega), old_cell hb g1, old_cell hb g2, old_cell hb y0, old_cell hb y1, old_cell hb y2, old_cell hb z0, old_cell hb z1, old_cell hb z2, kept_cell hk x0' (by show W1.heap.size ≠ _; omega), kept_cell hk x1' (by show W1.heap.size ≠ _; omega), kept_cell hk x2' (by show W1.heap.size ≠ _; omega), hk, hc, hb⟩ : W.cell? ⟨w.heap.size, 0, none⟩ = some (.slice (some pa) n c) ∧ W.cell? ⟨ca.block, ca.off + 1, none⟩ = some (.int .i64 t1) ∧ W.cell? ⟨ca.block, ca.off + 2, none⟩ = some (.int .i64 t2) ∧ W.cell? (pa.add (t1.toNat * 3)) = some (.float .f32 Y.f0) ∧ W.cell? ⟨(pa.add (t1.toNat * 3)).block, (pa.add (t1.toNat * 3)).off + 1, none⟩ = some (.float .f32 Y.f1) ∧ W.cell? ⟨(pa.add (t1.toNat * 3)).block, (pa.add (t1.toNat * 3)).off + 2, none⟩ = some (.float .f32 Y.f2) ∧ W.cell? (pa.add (t2.toNat * 3)) = some (.float .f32 Z.f0) ∧ W.cell? ⟨(pa.add (t2.toNat * 3)).block, (pa.add (t2.toNat * 3)).off + 1, none⟩ = some (.float .f32 Z.f1) ∧ W.cell? ⟨(pa.add (t2.toNat * 3)).block, (pa.add (t2.toNat * 3)).off + 2, none⟩ = some (.float .f32 Z.f2) ∧ W.cell? ⟨W1.heap.size, 0, none⟩ = some (.float .f32 X.f0) ∧ W.cell? ⟨W1.heap.size, 1, none⟩ = some (.float .f32 X.f1) ∧ W.cell? ⟨W1.heap.size, 2, none⟩ = some (.float .f32 X.f2) ∧ Kept W2 W (fun k => k = w.heap.size + 1) ∧ C3E W (w.heap.size + 1) ∧ Below w.heap.size w W))
  have S2 := K2.out W2 (Kept.refl _ _) hc3 HB2
  have KL := Lib.hid (fun (W : World) (h : W.cell? ⟨w.heap.size, 0, none⟩ = some (.slice (some pa) n c) ∧ W.cell? ⟨ca.block, ca.off + 1, none⟩ = some (.int .i64 t1) ∧ W.cell? ⟨ca.block, ca.off + 2, none⟩ = some (.int .i64 t2) ∧ W.cell? (pa.add (t1.toNat * 3)) = some (.float .f32 Y.f0) ∧ W.cell? ⟨(pa.add (t1.toNat * 3)).block, (pa.add (t1.toNat * 3)).off + 1, none⟩ = some (.float .f32 Y.f1) ∧ W.cell? ⟨(pa.add (t1.toNat * 3)).block, (pa.add (t1.toNat * 3)).off + 2, none⟩ = some (.float .f32 Y.f2) ∧ W.cell? (pa.add (t2.toNat * 3)) = some (.float .f32 Z.f0) ∧ W.cell? ⟨(pa.add (t2.toNat * 3)).block, (pa.add (t2.toNat * 3)).off + 1, none⟩ = some (.float .f32 Z.f1) ∧ W.cell? ⟨(pa.add (t2.toNat * 3)).block, (pa.add (t2.toNat * 3)).off + 2, none⟩ = some (.float .f32 Z.f2) ∧ W.cell? ⟨W1.heap.size, 0, none⟩ = some (.float .f32 X.f0) ∧ W.cell? ⟨W1.heap.size, 1, none⟩ = some (.float .f32 X.f1) ∧ W.cell? ⟨W1.heap.size, 2, none⟩ = some (.float .f32 X.f2) ∧ Kept W2 W (fun k => k = w.heap.size + 1) ∧ C3E W (w.heap.size + 1) ∧ Below w.heap.size w W) => h.2.2.2.2.2.2.2.2.2.2.2.2)
  rw [← hW2]
  clear xz hW2 b0 hc3 x0' x1' x2' HB12 S1 K1 HB2 HB1 g0 g1 g2 x0 x1 x2 y0 y1 y2 z0 z1 z2 i0 j0 hs1 hs2
  go_wp2_with fail
  go_region_held3 (fun W => W.cell? ⟨w.heap.size, 0, none⟩ = some (.slice (some pa) n c) ∧ W.cell? ⟨ca.block, ca.off + 1, none⟩ = some (.int .i64 t1) ∧ W.cell? ⟨ca.block, ca.off + 2, none⟩ = some (.int .i64 t2) ∧ W.cell? (pa.add (t1.toNat * 3)) = some (.float .f32 Y.f0) ∧ W.cell? ⟨(pa.add (t1.toNat * 3)).block, (pa.add (t1.toNat * 3)).off + 1, none⟩ = some (.float .f32 Y.f1) ∧ W.cell? ⟨(pa.add (t1.toNat * 3)).block, (pa.add (t1.toNat * 3)).off + 2, none⟩ = some (.float .f32 Y.f2) ∧ W.cell? (pa.add (t2.toNat * 3)) = some (.float .f32 Z.f0) ∧ W.cell? ⟨(pa.add (t2.toNat * 3)).block, (pa.add (t2.toNat * 3)).off + 1, none⟩ = some (.float .f32 Z.f1) ∧ W.cell? ⟨(pa.add (t2.toNat * 3)).block, (pa.add (t2.toNat * 3)).off + 2, none⟩ = some (.float .f32 Z.f2) ∧ W.cell? ⟨W1.heap.size, 0, none⟩ = some (.float .f32 X.f0) ∧ W.cell? ⟨W1.heap.size, 1, none⟩ = some (.float .f32 X.f1) ∧ W.cell? ⟨W1.heap.size, 2, none⟩ = some (.float .f32 X.f2) ∧ Kept W2 W (fun k => k = w.heap.size + 1) ∧ C3E W (w.heap.size + 1) ∧ Below w.heap.size w W)
    (first
      | (with_reducible assumption)
      | (with_reducible exact K2.out _ (KL.out _ (by with_reducible assumption)).1.drew (KL.out _ (by with_reducible assumption)).2.1.drew (Below.drew (KL.out _ (by with_reducible assumption)).2.2))
      | (with_reducible exact K2.out _ ((KL.out _ (by with_reducible assumption)).1.below (by with_reducible assumption)) ((KL.out _ (by with_reducible assumption)).2.1.below (by with_reducible assumption)) (below_then (KL.out _ (by with_reducible assumption)).2.2 (by with_reducible assumption) (KL.out _ (by with_reducible assumption)).2.2.size))
      | (with_reducible exact K2.out _ ((((KL.out _ (by with_reducible assumption)).1.setCell (.inl rfl) _).setCell (.inl rfl) _).setCell (.inl rfl) _) (KL.out _ (by with_reducible assumption)).2.1.set3 (Below.set3 (KL.out _ (by with_reducible assumption)).2.2 (Nat.le_succ _) _ _ _)))
    (first
      | (go_at_call 104; first
          | ((with_reducible refine (impl_LessVectors Y.f0 Y.f1 Y.f2 X.f0 X.f1 X.f2 _).mono ?_); rintro E w' ⟨p1, q1, r1, rfl, hp1, hq1, hr1, hb⟩)
          | ((with_reducible refine (impl_LessVectors Z.f0 Z.f1 Z.f2 X.f0 X.f1 X.f2 _).mono ?_); rintro E w' ⟨p2, q2, r2, rfl, hp2, hq2, hr2, hb⟩))
      | (go_at_call 103; (with_reducible refine (impl_CrossOf _ _ _ _ _ _ _).mono ?_); rintro E w' ⟨p, q, r, rfl, ho, hj, hl, hb⟩; obtain ⟨u0, u1, u2, hcs⟩ := (KL.out _ (by with_reducible assumption)).2.1.below hb; have hcs' := hcs.set (v0 := .float .f32 p) (v1 := .float .f32 q) (v2 := .float .f32 r); obtain ⟨f0, f1, f2, z0, z1, z2, zz⟩ := hcs; clear zz))
  refine ‹∀ (a : Act) (w : World), Code.wp _ Code.ret Q' a w → _› _ _ ?_
  obtain ⟨W3, hW3⟩ : ∃ W, W = (((w'.setCell ⟨w.heap.size + 1, 0, none⟩ (.float .f32 p)).setCell ⟨w.heap.size + 1, 1, none⟩ (.float .f32 q)).setCell ⟨w.heap.size + 1, 2, none⟩ (.float .f32 r)) := ⟨_, rfl⟩
  have hfin := (KL.out (((w'.setCell ⟨w.heap.size + 1, 0, none⟩ (.float .f32 p)).setCell ⟨w.heap.size + 1, 1, none⟩ (.float .f32 q)).setCell ⟨w.heap.size + 1, 2, none⟩ (.float .f32 r)) (by with_reducible assumption)).2.2
  rw [← hW3] at hfin hcs' ⊢
  clear f0 f1 f2 z0 z1 z2
  obtain ⟨f0, f1, f2, z0, z1, z2, zz⟩ := hcs'
  rw [hp1.val, hq1.val, hr1.val, hp2.val, hq2.val, hr2.val] at *
  clear hW3 KL K2 S2
  go_wp2_with fail
  ((try simp only [Exit.inBlock, Exit.then]); refine bodyPost_ret (by simp [results, Try.results73, go_sem, f0, f1, f2]; try rfl) rfl ?_)
  exact ⟨⟨p, q, r, rfl, ho, hj, hl⟩, hfin⟩

end Go.Proofs.Ytnibobbfepdeiaa
namespace Go.Proofs.Ytnibobbfepdeiaa
open Fl Go.RowKit Go.Proofs.YtnibobbfepdeiaaW.PrintWords Go.Proofs.Ytnibobbfepdeiaa.PMesh Msh
set_option linter.unusedVariables false

theorem in_f2 (n : Nat) (hn : n ≤ 128) (p : Int) : spec_l00In.f p 0 (wrap64 ((n : Int) - 1)) = some (inB n p) := by
  unfold spec_l00In.f inB
  rw [wrap_fit (by omega) (by omega)]
  by_cases h : p ≥ 0
  · rw [if_pos h]; congr 1; rw [decide_eq_decide]; omega
  · rw [if_neg h]; congr 1; symm; rw [decide_eq_false_iff_not]; omega
theorem within_f2 (n : Nat) (hn : n ≤ 128) (p : Int) : impl_within.f p 0 (wrap64 ((n : Int) - 1)) = some (inB n p) := in_f2 n hn p

/-- A triangle of a valid mesh. -/
theorem tri_at {n : Nat} {T : List (List Int)} (hv : validB n T = true) {i : Int} (h0 : 0 ≤ i) (h1 : i < T.length) : ∃ t, rd_L3 T i = t ∧ t.length = 3 ∧ (0 ≤ rd t 0 ∧ rd t 0 < n) ∧ (0 ≤ rd t 1 ∧ rd t 1 < n) ∧ (0 ≤ rd t 2 ∧ rd t 2 < n) := by
  obtain ⟨j, rfl⟩ : ∃ j : Nat, i = (j : Int) := ⟨i.toNat, by omega⟩
  have hj : j < T.length := by omega
  have h := List.all_eq_true.1 (validB_iff.1 hv).2.2 _ (List.getElem_mem hj)
  have h3 := triB_len h
  refine ⟨_, rdL T j hj, h3, ?_⟩
  obtain ⟨a, b, c, e⟩ := tri3 h3
  rw [e] at h ⊢
  simp only [triB, inB, Bool.and_eq_true, decide_eq_true_eq] at h
  rw [rd3_0, rd3_1, rd3_2]
  exact ⟨h.1.1.2, h.1.2, h.2⟩

/-- What NormalOf answers: the values of the vector, and whether it is one. -/
def normR (Q : List S59) (T : List (List Int)) (i : Int) : (Option Nat × Option Nat × Option Nat) × Bool :=
  if (validB Q.length T && inB T.length i) = true then (crossV (rd_T59 Q (rd (rd_L3 T i) 0)) (rd_T59 Q (rd (rd_L3 T i) 1)) (rd_T59 Q (rd (rd_L3 T i) 2)), true)
  else ((val .f32 0, val .f32 0, val .f32 0), false)
/-- What a function with a vector and a bool leaves. -/
def AnsV (w : World) (r : (Option Nat × Option Nat × Option Nat) × Bool) (E : Ending) (w' : World) : Prop := ∃ p q s, E = .returned (.tuple #[.agg #[.float .f32 p, .float .f32 q, .float .f32 s], .bool r.2]) ∧ FR .f32 p r.1.1 ∧ FR .f32 q r.1.2.1 ∧ FR .f32 s r.1.2.2 ∧ Below w.heap.size w w'
theorem FR_zero : FR .f32 0 (val .f32 0) := ⟨by decide, rfl⟩

/-- A variable that holds a vector of noughts. -/
def Box0 (W : World) (g : Nat) : Prop := W.heap[g]? = some (.cells #[.float .f32 0, .float .f32 0, .float .f32 0] 59 (0, 0))
theorem Box0.new (W : World) : Box0 (W.alloc (.cells #[.float .f32 0, .float .f32 0, .float .f32 0] 59)) W.heap.size := heap_alloc_new W _
theorem Box0.below {W W' : World} {g : Nat} (h : Box0 W g) (hb : Below W.heap.size W W') : Box0 W' g := (hb.block g (blk_lt h)).trans h
theorem Box0.cells {W : World} {g : Nat} (h : Box0 W g) : W.cell? ⟨g, 0, none⟩ = some (.float .f32 0) ∧ W.cell? ⟨g, 1, none⟩ = some (.float .f32 0) ∧ W.cell? ⟨g, 2, none⟩ = some (.float .f32 0) ∧ W.frozen? ⟨g, 0, none⟩ = false ∧ W.frozen? ⟨g, 1, none⟩ = false ∧ W.frozen? ⟨g, 2, none⟩ = false :=
  ⟨(blk_cell h 0).trans rfl, (blk_cell h 1).trans rfl, (blk_cell h 2).trans rfl, blk_frozen h 0, blk_frozen h 1, blk_frozen h 2⟩

theorem isTri_f (Q : List S59) (T : List (List Int)) (i : Int) : ∃ k, impl_isTriangleOf.f k Q T i = some (validB Q.length T && inB T.length i) := by
  refine ⟨2097156, ?_⟩
  unfold impl_isTriangleOf.f
  rw [valid_f _ _ _ (by omega)]
  simp only [Option.bind_some]
  by_cases h : validB Q.length T = true
  · rw [if_pos h, within_f2 _ (validB_iff.1 h).2.1, h]; rfl
  · rw [if_neg h, Bool.eq_false_iff.2 h]; rfl

set_option maxHeartbeats 1000000 in
theorem impl_NormalOf (A : Option Addr) (c : Nat) (Q : List S59) (B : Option Addr) (e : Nat) (T : List (List Int)) (i : Int) (w : World) (hQ : Kd.C k59 w A Q.length Q) (hq : Q.length ≤ c) (hT : Kd.C (Kd.slice 2 (Kd.int .i64)) w B T.length T) (hqt : T.length ≤ e) :
    Calls Try.prog 34 #[.agg #[.slice A Q.length c, .slice B T.length e], .int .i64 i] w (AnsV w (normR Q T i)) := by
  obtain ⟨k, hk⟩ := isTri_f Q T i
  obtain ⟨M, hM⟩ : ∃ M, M = w.alloc (.cells #[.slice A Q.length c, .slice B T.length e] 30) := ⟨_, rfl⟩
  obtain ⟨W0, hW0⟩ : ∃ W0, W0 = M.alloc (.cells #[.float .f32 0, .float .f32 0, .float .f32 0] 59) := ⟨_, rfl⟩
  have hms : M.heap.size = w.heap.size + 1 := by rw [hM]; simp
  have hbM : Below w.heap.size w M := by rw [hM]; exact Below.alloc (Below.refl w.heap.size w) (Nat.le_refl _) _
  have hb0 : Below w.heap.size w W0 := by rw [hW0]; exact Below.alloc hbM (by omega) _
  have hbx : BoxAt W0 w.heap.size 30 (.slice A Q.length c) (.slice B T.length e) := by
    have := BoxAt.new w 30 (.slice A Q.length c) (.slice B T.length e)
    rw [← hM] at this
    rw [hW0]
    exact this.below (below_alloc (Below.refl _ _) _)
  have hf0 : Box0 W0 (w.heap.size + 1) := by have := Box0.new M; rwa [hms, ← hW0] at this
  have HX0 := Lib.hid hbx
  have HB0 := Lib.hid hb0
  have F0 := Lib.hid hf0
  have hc0 := hbx.c0
  have hc1 := hbx.c1
  have HT := Lib.hid (fun (W : World) (h : Below w.heap.size w W) => impl_isTriangleOf.calls k A c Q B e T i _ W (Kd.C_below hQ h) hq (Kd.C_below hT h) hqt hk)
  rw [hW0, hM] at hc0 hc1 HX0 HB0 F0
  by_cases hvi : (validB Q.length T && inB T.length i) = true
  · have hv : validB Q.length T = true := (Bool.and_eq_true_iff.1 hvi).1
    have hi : inB T.length i = true := (Bool.and_eq_true_iff.1 hvi).2
    have hr : normR Q T i = (crossV (rd_T59 Q (rd (rd_L3 T i) 0)) (rd_T59 Q (rd (rd_L3 T i) 1)) (rd_T59 Q (rd (rd_L3 T i) 2)), true) := by unfold normR; rw [if_pos hvi]
    rw [hr]
    obtain ⟨hi0, hi1⟩ : 0 ≤ i ∧ i < T.length := by simpa [inB] using hi
    obtain ⟨t, ht, h3, ⟨i0, j0⟩, ⟨i1, j1⟩, i2, j2⟩ := tri_at hv hi0 hi1
    obtain ⟨ba, C, cc, rfl, tc, hcc, hC⟩ := at_L3 hT i hi0 hi1
    rw [ht] at tc hC
    have HN := Lib.hid (fun (W : World) (h : Below w.heap.size w W) => impl_normalOf A c Q (.slice (some ba) T.length e) C cc t W (Kd.C_below hQ h) (Kd.C_below hC h) h3 i0 j0 i1 j1 i2 j2)
    rw [ht]
    rw [hvi] at HT
    generalize crossV (rd_T59 Q (rd t 0)) (rd_T59 Q (rd t 1)) (rd_T59 Q (rd t 2)) = R at *
    obtain ⟨R0, R1, R2⟩ := R
    clear hr hv hi hvi ht h3 i0 j0 i1 j1 i2 j2 hQ hT hk hms hbM hbx hf0 hb0 hC hcc hW0 hM hq hqt
    replace hi0 := eq_true hi0
    replace hi1 := eq_true hi1
    generalize T.length = m at *
    generalize t.length = tl at *
    generalize Q.length = n at *
    go_enter Try.func34, Try.ntmps34
    go_wp2_with (first
      | (go_at_call 80; refine (HT.out _ HB0.out).mono ?_; rintro E w1 ⟨rfl, hb⟩; have X1 := Lib.hid (HX0.out.below hb); have B1 := Lib.hid (below_then HB0.out hb HB0.out.size); have F1 := Lib.hid (F0.out.below hb); clear hb hc0 hc1)
      | fail)
    have hc3 : C3E w1 (w.heap.size + 1) := by obtain ⟨f0, f1, f2, z0, z1, z2⟩ := F1.out.cells; exact ⟨_, _, _, f0, f1, f2, z0, z1, z2, blk_lt F1.out⟩
    have K2 := Lib.hid (fun (W : World) (hk : Kept w1 W (fun k => k = w.heap.size + 1)) (hc : C3E W (w.heap.size + 1)) (hb : Below w.heap.size w W) =>
      (⟨kept_cell hk X1.out.c0 (by show w.heap.size ≠ _; omega), kept_cell hk X1.out.c1 (by show w.heap.size ≠ _; omega), old_cell hb tc, hk, hc, hb⟩ : W.cell? ⟨w.heap.size, 0, none⟩ = some (.slice A n c) ∧ W.cell? ⟨w.heap.size, 1, none⟩ = some (.slice (some ba) m e) ∧ W.cell? (ba.add i.toNat) = some (.slice C tl cc) ∧ Kept w1 W (fun k => k = w.heap.size + 1) ∧ C3E W (w.heap.size + 1) ∧ Below w.heap.size w W))
    have S2 := K2.out w1 (Kept.refl _ _) hc3 B1.out
    have KL := Lib.hid (fun (W : World) (h : W.cell? ⟨w.heap.size, 0, none⟩ = some (.slice A n c) ∧ W.cell? ⟨w.heap.size, 1, none⟩ = some (.slice (some ba) m e) ∧ W.cell? (ba.add i.toNat) = some (.slice C tl cc) ∧ Kept w1 W (fun k => k = w.heap.size + 1) ∧ C3E W (w.heap.size + 1) ∧ Below w.heap.size w W) => h.2.2.2)
    clear X1 F1 HX0 HB0 F0 HT hc3 tc
    go_region_held3 (fun W => W.cell? ⟨w.heap.size, 0, none⟩ = some (.slice A n c) ∧ W.cell? ⟨w.heap.size, 1, none⟩ = some (.slice (some ba) m e) ∧ W.cell? (ba.add i.toNat) = some (.slice C tl cc) ∧ Kept w1 W (fun k => k = w.heap.size + 1) ∧ C3E W (w.heap.size + 1) ∧ Below w.heap.size w W)
      (first
        | (with_reducible assumption)
        | (with_reducible exact K2.out _ (KL.out _ (by with_reducible assumption)).1.drew (KL.out _ (by with_reducible assumption)).2.1.drew (Below.drew (KL.out _ (by with_reducible assumption)).2.2))
        | (with_reducible exact K2.out _ ((KL.out _ (by with_reducible assumption)).1.below (by with_reducible assumption)) ((KL.out _ (by with_reducible assumption)).2.1.below (by with_reducible assumption)) (below_then (KL.out _ (by with_reducible assumption)).2.2 (by with_reducible assumption) (KL.out _ (by with_reducible assumption)).2.2.size))
        | (with_reducible exact K2.out _ ((((KL.out _ (by with_reducible assumption)).1.setCell (.inl rfl) _).setCell (.inl rfl) _).setCell (.inl rfl) _) (KL.out _ (by with_reducible assumption)).2.1.set3 (Below.set3 (KL.out _ (by with_reducible assumption)).2.2 (Nat.le_succ _) _ _ _)))
      (first
        | (go_at_call 73; (with_reducible refine (HN.out _ (KL.out _ (by with_reducible assumption)).2.2).mono ?_); rintro E w' ⟨⟨p, q, r, rfl, ho, hj, hl⟩, hb⟩; obtain ⟨u0, u1, u2, hcs⟩ := (KL.out _ (by with_reducible assumption)).2.1.below hb; have hcs' := hcs.set (v0 := .float .f32 p) (v1 := .float .f32 q) (v2 := .float .f32 r); obtain ⟨f0, f1, f2, z0, z1, z2, zz⟩ := hcs; clear zz))
    rename_i hH
    refine ‹∀ (a : Act) (w_1 : World), Code.wp _ Code.ret _ a w_1 → _› _ _ ?_
    obtain ⟨W3, hW3⟩ : ∃ W, W = (((w'.setCell ⟨w.heap.size + 1, 0, none⟩ (.float .f32 p)).setCell ⟨w.heap.size + 1, 1, none⟩ (.float .f32 q)).setCell ⟨w.heap.size + 1, 2, none⟩ (.float .f32 r)) := ⟨_, rfl⟩
    have hfin := (KL.out _ hH).2.2
    rw [← hW3] at hfin hcs' ⊢
    clear f0 f1 f2 z0 z1 z2
    obtain ⟨f0, f1, f2, z0, z1, z2, zz⟩ := hcs'
    clear hW3 KL K2 S2 hH
    go_wp2_with fail
    ((try simp only [Exit.inBlock, Exit.then]); refine bodyPost_ret (by simp [results, Try.results34, go_sem, f0, f1, f2]; try rfl) rfl ?_)
    exact ⟨p, q, r, rfl, ho, hj, hl, hfin⟩
  · have hvi' := Bool.eq_false_iff.2 hvi
    have hr : normR Q T i = ((val .f32 0, val .f32 0, val .f32 0), false) := by unfold normR; rw [if_neg (by rw [hvi']; simp)]
    rw [hr]
    rw [hvi'] at HT
    clear hr hvi hvi' hQ hT hk hms hbM hbx hf0 hb0 hW0 hM hq hqt
    go_enter Try.func34, Try.ntmps34
    go_wp2_with (first
      | (go_at_call 80; refine (HT.out _ HB0.out).mono ?_; rintro E w1 ⟨rfl, hb⟩; have B1 := Lib.hid (below_then HB0.out hb HB0.out.size); obtain ⟨f0, f1, f2, z0, z1, z2⟩ := (F0.out.below hb).cells; clear hb hc0 hc1)
      | fail)
    ((try simp only [Exit.inBlock, Exit.then]); refine bodyPost_ret (by simp [results, Try.results34, go_sem, f0, f1, f2, setCell_same_of, World.cell?_setCell_other]; try rfl) rfl ?_)
    exact ⟨0, 0, 0, rfl, FR_zero, FR_zero, FR_zero, Below.set3 B1.out (by omega) _ _ _⟩

/-- The values of the vector across a triangle's sides. -/
def crossAt (Q : List S59) (T : List (List Int)) (i : Int) : Option Nat × Option Nat × Option Nat :=
  crossV (rd_T59 Q (rd (rd_L3 T i) 0)) (rd_T59 Q (rd (rd_L3 T i) 1)) (rd_T59 Q (rd (rd_L3 T i) 2))
/-- The length of such a vector. -/
def longX (X : Option Nat × Option Nat × Option Nat) : Option Nat := longV X.1 X.2.1 X.2.2
/-- The sum of the halves of the lengths, so far. -/
def areaV (Q : List S59) (T : List (List Int)) : Nat → Option Nat
  | 0 => some 0
  | i + 1 => bin .add .f32 (areaV Q T i) (bin .mul .f32 (some 1056964608) (longX (crossAt Q T i)))
theorem vtwo : val .f32 1073741824 = some 1073741824 := by decide
theorem vnil : val .f32 0 = some 0 := by decide

/-- What AreaOf answers. -/
def areaR (Q : List S59) (T : List (List Int)) : Option Nat × Bool := if validB Q.length T = true then (areaV Q T T.length, true) else (val .f32 0, false)
/-- What a function with a float and a bool leaves. -/
def AnsF (w : World) (r : Option Nat × Bool) (E : Ending) (w' : World) : Prop := ∃ s, E = .returned (.tuple #[.float .f32 s, .bool r.2]) ∧ FR .f32 s r.1 ∧ Below w.heap.size w w'

set_option maxHeartbeats 1000000 in
theorem impl_AreaOf (A : Option Addr) (c : Nat) (Q : List S59) (B : Option Addr) (e : Nat) (T : List (List Int)) (w : World) (hQ : Kd.C k59 w A Q.length Q) (hq : Q.length ≤ c) (hT : Kd.C (Kd.slice 2 (Kd.int .i64)) w B T.length T) (hqt : T.length ≤ e) :
    Calls Try.prog 29 #[.agg #[.slice A Q.length c, .slice B T.length e]] w (AnsF w (areaR Q T)) := by
  have hx0 := BoxAt.new w 30 (.slice A Q.length c) (.slice B T.length e)
  have hb0 := Below.alloc (Below.refl w.heap.size w) (Nat.le_refl _) (.cells #[.slice A Q.length c, .slice B T.length e] 30)
  have hc0 := hx0.c0
  have hc1 := hx0.c1
  have HX0 := Lib.hid hx0
  have HB0 := Lib.hid hb0
  have HT := Lib.hid (fun (W : World) (h : Below w.heap.size w W) => impl_ValidMesh.calls 2097156 A c Q B e T _ W (Kd.C_below hQ h) hq (Kd.C_below hT h) hqt (valid_f Q T _ (by omega)))
  by_cases hv : validB Q.length T = true
  · have hl : T.length ≤ 128 := (validB_iff.1 hv).2.1
    have hr : areaR Q T = (areaV Q T T.length, true) := by unfold areaR; rw [if_pos hv]
    rw [hr]
    have HN : Hid (∀ (i : Nat) (W : World), i < T.length → Below w.heap.size w W → ∃ ba C tl cc, B = some ba ∧ w.cell? (ba.add i) = some (.slice C tl cc) ∧ Calls Try.prog 73 #[.agg #[.slice A Q.length c, .slice B T.length e], .slice C tl cc] W fun E w' => RetV (crossAt Q T i) E ∧ Below W.heap.size W w') := Lib.hid (fun i W hi hb => by
      obtain ⟨t, ht, h3, ⟨i0, j0⟩, ⟨i1, j1⟩, i2, j2⟩ := tri_at hv (i := (i : Int)) (by omega) (by omega)
      obtain ⟨ba, C, cc, hba, tc, hcc, hC⟩ := at_L3 hT (i : Int) (by omega) (by omega)
      rw [ht, Int.toNat_natCast] at tc
      rw [ht] at hC
      refine ⟨ba, C, _, cc, hba, tc, ?_⟩
      unfold crossAt
      rw [ht]
      exact impl_normalOf A c Q _ C cc t W (Kd.C_below hQ hb) (Kd.C_below hC hb) h3 i0 j0 i1 j1 i2 j2)
    rw [hv] at HT
    clear hr hv hQ hT hq hqt hx0 hb0
    go_enter Try.func29, Try.ntmps29
    go_wp2_with (first
      | (go_at_call 41; refine (HT.out _ HB0.out).mono ?_; rintro E w1 ⟨rfl, hb⟩; have hx1 := HX0.out.below hb; have B1 := below_then HB0.out hb HB0.out.size; have hd0 := hx1.c0; have hd1 := hx1.c1; clear hb hc0 hc1)
      | fail)
    go_loopw [4, 13] (fun s k wr => ∃ (i sb : Nat), i ≤ T.length ∧ s = .float .f32 sb ∧ k = .int .i64 (i : Int) ∧ FR .f32 sb (areaV Q T i) ∧ BoxAt wr w.heap.size 30 (.slice A Q.length c) (.slice B T.length e) ∧ Below w.heap.size w wr) (fun _ k _ => T.length - (intOf k).toNat)
    case atStart => exact ⟨0, 0, Nat.zero_le _, rfl, rfl, ⟨by decide, vnil⟩, hx1, B1⟩
    case round =>
      obtain ⟨i, sb, hi, rfl, rfl, hs, hx, hb⟩ := hrel
      clear hx1 B1 hd0 hd1
      have hd0 := hx.c0
      have hd1 := hx.c1
      by_cases hlt : i < T.length
      · have b1 : (i : Int) < (T.length : Int) := by omega
        have b2 : (0 : Int) ≤ (i : Int) := by omega
        have b3 : (i : Int) < 1048576 := by omega
        obtain ⟨ba, C, tl, cc, rfl, tc, hX⟩ := HN.out i _ hlt hb
        replace tc := old_cell hb tc
        have HX := Lib.hid hX
        have ha : areaV Q T (i + 1) = bin .add .f32 (areaV Q T i) (bin .mul .f32 (some 1056964608) (longX (crossAt Q T i))) := rfl
        have HA := Lib.hid ha
        clear hX ha
        generalize crossAt Q T i = X at *
        obtain ⟨X0, X1, X2⟩ := X
        go_wp2_with (first
          | (go_at_call 73; refine HX.out.mono ?_; rintro E w2 ⟨⟨p, q, r, rfl, hp, hq, hr⟩, hb1⟩; have B2 := below_then hb hb1 hb.size; have hx2 := hx.below hb1)
          | (go_at_call 72; refine (impl_LongOf _ _ _ _).mono ?_; rintro E w3 ⟨u, rfl, hu, hb2⟩; have B3 := below_then B2 hb2 B2.size; have hx3 := hx2.below hb2; rw [hp.val, hq.val, hr.val] at hu)
          | (refine wpList_fbin (o := ⟨some 22, _, _, _, _, _⟩) rfl _ _ _ _ _ rfl (by decide) _ _ _ rfl rfl ?_; intro m nm hm; rw [vtwo, hu.val, half_eq] at hm)
          | (refine wpList_fbin (o := ⟨some 23, _, _, _, _, _⟩) rfl _ _ _ _ _ rfl (by decide) _ _ _ rfl rfl ?_; intro v nv hv; rw [hs.val, hm.val] at hv)
          | fail)
        go_roundw
        case rel => exact ⟨i + 1, v, hlt, rfl, by simp, by rw [HA.out]; exact hv, hx3, by (repeat (first | exact Below.refl _ _ | assumption | (refine Below.drewN ?_ _) | (refine Below.setCell ?_ (by first | (simp; done) | (simp; omega)) _) | (refine Below.drew ?_) | (refine Below.alloc ?_ (by first | (simp; done) | (simp; omega)) _)))⟩
        case measure => simp [intOf]; omega
      · obtain rfl : i = T.length := by omega
        go_wp2_with fail
        go_ret2
        exact ⟨sb, rfl, hs, hb⟩
  · have hr : areaR Q T = (val .f32 0, false) := by unfold areaR; rw [if_neg hv]
    rw [hr]
    have hv' := Bool.eq_false_iff.2 hv
    rw [hv'] at HT
    clear hr hv hv' hQ hT hq hqt hx0 hb0
    go_enter Try.func29, Try.ntmps29
    go_wp2_with (first
      | (go_at_call 41; refine (HT.out _ HB0.out).mono ?_; rintro E w1 ⟨rfl, hb⟩; have B1 := below_then HB0.out hb HB0.out.size; clear hb hc0 hc1)
      | fail)
    go_ret2
    exact ⟨0, rfl, FR_zero, B1⟩

end Go.Proofs.Ytnibobbfepdeiaa
