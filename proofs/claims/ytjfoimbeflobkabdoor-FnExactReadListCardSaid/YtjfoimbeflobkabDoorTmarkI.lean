/-
  Contracts: a row of whole numbers marked, and looked at.
-/
import Derived.Test.YtjfoimbeflobkabDoorTeqI
import Derived.Test.YtjfoimbeflobkabDoorPheldInt64Sx1
import Derived.Lib.Hide
import Derived.OwnWalk
namespace Go.Proofs.YtjfoimbeflobkabDoor
open Go.RowKit Go.Proofs.YtjfoimbeflobkabDoorW.PrintWords
set_option linter.unusedVariables false

/-- 1, 2, .., n. -/
def marksI (n : Nat) : List Int := (List.range n).map fun t : Nat => (t : Int) + 1
theorem marksI_len (n : Nat) : (marksI n).length = n := by simp [marksI]
theorem marksI_get (n i : Nat) (h : i < (marksI n).length) : (marksI n)[i] = (i : Int) + 1 := by simp [marksI]

/-- The first i marked. -/
def partI (l : List Int) (i : Nat) : List Int := marksI i ++ l.drop i
theorem partI_len (l : List Int) (i : Nat) (h : i ≤ l.length) : (partI l i).length = l.length := by simp [partI, marksI]; omega
theorem partI_zero (l : List Int) : partI l 0 = l := rfl
theorem partI_all (l : List Int) : partI l l.length = marksI l.length := by simp [partI]
theorem partI_set (l : List Int) (i : Nat) (h : i < l.length) : (partI l i).set i ((i : Int) + 1) = partI l (i + 1) := by
  have e1 : marksI (i + 1) = marksI i ++ [(i : Int) + 1] := by simp [marksI, List.range_succ]
  have e2 : l.drop i = l[i] :: l.drop (i + 1) := List.drop_eq_getElem_cons h
  have hm : (marksI i).length = i := marksI_len i
  unfold partI
  rw [e1, e2, List.set_append, if_neg (by omega), hm, Nat.sub_self, List.set_cons_zero, List.append_assoc]
  rfl

theorem laws_markInt64S (v : Value) (l : List Int) (hl : l.length ≤ 1048576) (w : World) (base : Nat) (h : w.ownsRow base 2 1 v l.length (encs (Value.int .i64) l)) :
    Calls Tryd.prog 11 #[v, .int .i64 1] w fun e w' => e = .returned (.int .i64 (1 + (l.length : Int))) ∧ w'.ownsRow base 2 1 v l.length (encs (Value.int .i64) (marksI l.length)) ∧ w.grownBy w' v.ownBlock := by
  by_cases h0 : l.length = 0
  · obtain rfl : l = [] := List.length_eq_zero_iff.1 h0
    obtain ⟨A, c, rfl⟩ := own_slice h
    have HO := Lib.hid h
    clear h h0 hl
    show Calls Tryd.prog 11 #[.slice A 0 c, .int .i64 1] w _
    go_enter Tryd.func11, Tryd.ntmps11
    go_wp2_with fail
    go_loopw [1, 5] (fun k i wr => wr = w ∧ k = .int .i64 1 ∧ i = .int .i64 0) (fun _ _ _ => 0)
    case atStart => exact ⟨rfl, rfl, rfl⟩
    case round =>
      obtain ⟨rfl, rfl, rfl⟩ := hrel
      go_wp2_with fail
      go_ret
      exact ⟨rfl, HO.out, World.grownBy.refl _ _⟩
  · obtain ⟨g, c, rfl, hgb, hgl⟩ := h.form (by omega)
    have HO := Lib.hid h
    clear h
    go_enter Tryd.func11, Tryd.ntmps11
    go_wp2_with fail
    go_loopw [1, 5] (fun k i wr => ∃ j : Nat, j ≤ l.length ∧ k = .int .i64 (1 + (j : Int)) ∧ i = .int .i64 (j : Int) ∧ Hid (wr.ownsRow base 2 1 (.slice (some ⟨g, 0, none⟩) l.length c) l.length (encs (Value.int .i64) (partI l j))) ∧ w.grownBy wr (some g)) (fun _ i _ => l.length - (intOf i).toNat)
    case atStart => exact ⟨0, Nat.zero_le _, rfl, rfl, by exact HO.out, World.grownBy.refl _ _⟩
    case round =>
      obtain ⟨j, hj, rfl, rfl, hO, hg⟩ := hrel
      by_cases hlt : j < l.length
      · have b1 : (j : Int) < (l.length : Int) := by omega
        have b2 : (0 : Int) ≤ (j : Int) := by omega
        have b3 : (j : Int) < 1048576 := by omega
        obtain ⟨hcell, hfr⟩ := own_at_of (d := (0 : Int)) hO.out (j : Int) b2 b1
        obtain ⟨hst, hgs⟩ := own_store_of (enc := Value.int .i64) hO.out (j : Int) (1 + (j : Int))
        rw [Int.toNat_natCast] at hcell hfr hst hgs
        rw [show (1 + (j : Int)) = (j : Int) + 1 by omega, partI_set l j hlt] at hst
        rw [show (1 + (j : Int)) = (j : Int) + 1 by omega] at hgs ⊢
        have HST := Lib.hid hst
        have HGS := Lib.hid hgs
        clear hst hgs
        go_wp2_with fail
        go_roundw
        case rel => exact ⟨j + 1, hlt, by first | rfl | (congr 1; omega) | (simp; omega), by simp, by exact HST.out, World.grownBy.trans hg HGS.out⟩
        case measure => simp [intOf]; omega
      · obtain rfl : j = l.length := by omega
        go_wp2_with fail
        go_ret
        refine ⟨rfl, ?_, hg⟩
        have := hO.out
        rw [partI_all] at this
        exact this

theorem held_loop (n : Nat) (hl : n ≤ 1048576) (d : Nat) : ∀ (k i : Nat), i ≤ n → n - i = d → d < k → PheldInt64S.laws_heldInt64S.l0 k (marksI n) (1 + (i : Int)) (i : Int) = some (1 + (n : Int)) := by
  have hml := marksI_len n
  induction d with
  | zero =>
    intro k i hi hd hk
    obtain ⟨k, rfl⟩ : ∃ j, k = j + 1 := ⟨k - 1, by omega⟩
    obtain rfl : i = n := by omega
    simp only [PheldInt64S.laws_heldInt64S.l0]
    rw [if_neg (by omega)]
  | succ d ih =>
    intro k i hi hd hk
    obtain ⟨k, rfl⟩ : ∃ j, k = j + 1 := ⟨k - 1, by omega⟩
    simp only [PheldInt64S.laws_heldInt64S.l0]
    rw [if_pos (by omega), if_pos (by omega), rd_get _ i (by omega), marksI_get, if_pos (by omega), wrap_fit (by omega) (by omega), wrap_fit (by omega) (by omega), show 1 + (i : Int) + 1 = 1 + ((i + 1 : Nat) : Int) by omega, show (i : Int) + 1 = ((i + 1 : Nat) : Int) by omega]
    exact ih k (i + 1) (by omega) (by omega) (by omega)

theorem laws_heldInt64S (A : Option Addr) (c n : Nat) (hl : n ≤ 1048576) (w : World) (hA : (Kd.int .i64).C w A n (marksI n)) (hc : n ≤ c) :
    Calls Tryd.prog 12 #[.slice A n c, .int .i64 1] w fun e w' => e = .returned (.int .i64 (1 + (n : Int))) ∧ ∃ m, w' = w.drewN m := by
  have hml := marksI_len n
  have h := PheldInt64S.laws_heldInt64S.calls (n + 1) A c (marksI n) 1 (1 + (n : Int)) w (by rw [hml]; exact hA) (by omega) (held_loop n hl n (n + 1) 0 (Nat.zero_le _) (by omega) (by omega))
  rw [hml] at h
  refine h.mono ?_
  rintro e w' ⟨rfl, m, rfl⟩
  exact ⟨rfl, m, rfl⟩
end Go.Proofs.YtjfoimbeflobkabDoor
