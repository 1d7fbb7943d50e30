/-
  Contracts and the law: LogNumber on both sides.
-/
import Derived.Test.YtilaempppmhohaaB6
namespace Go.Proofs.Ytilaempppmhohaa
open Fl Ieee Go.RowKit
set_option linter.unusedVariables false

/-- The natural logarithm that the program computes. -/
def logNumV (X : Option Nat) : Option Nat :=
  match X with
  | none => none
  | some x => if rung single x = 0 then some 4286578688 else if sgn single x then none else if rung single x = 2139095040 then some 2139095040 else nar (logV (W x))

/-- How a number stands to zero. -/
theorem zero_tests (k : FloatKind) {x : Nat} (h : rung k.format x ≤ k.format.infRung) :
    (k.format.order x 0 == some .eq) = decide (rung k.format x = 0) ∧ (k.format.order x 0 == some .lt) = decide (sgn k.format x = true ∧ rung k.format x ≠ 0) ∧ (k.format.order x x != some .eq) = false := by
  have h0 : rung k.format 0 = 0 := by unfold rung; simp
  have e2 : key k.format 0 = 0 := by unfold key; rw [h0]; split <;> rfl
  rw [order_key k h (by rw [h0]; exact Nat.zero_le _), order_key k h h, e2]
  unfold key
  generalize rung k.format x = r
  refine ⟨?_, ?_, by simp⟩
  · rw [Bool.eq_iff_iff]
    simp only [beq_iff_eq, Option.some.injEq, Int.compare_eq_eq, decide_eq_true_eq]
    cases sgn k.format x <;> simp
  · rw [Bool.eq_iff_iff]
    simp only [beq_iff_eq, Option.some.injEq, Int.compare_eq_lt, decide_eq_true_eq]
    cases sgn k.format x <;> simp <;> omega

theorem wid_pos {x r : Nat} (hv : val .f32 x = some x) (hr : FR .f64 r (wid (val .f32 x))) (hs : sgn single x = false) (h0 : 0 < rung single x) (h1 : rung single x < single.infRung) :
    r = W x ∧ 3936146074321813504 ≤ r ∧ r ≤ 5183643170566569984 := by
  have e := (FR_wid hv hr).2
  have hW := W_fin h1
  rw [← e] at hW
  have hlt : r < 18446744073709551616 := hr.lt
  have hsp := f64_split' hlt
  have hn : r < 9223372036854775808 := by
    have h2 := hsp.2
    rw [hW.2.1, hs] at h2
    rcases Nat.lt_or_ge r 9223372036854775808 with h | h
    · exact h
    · rw [decide_eq_true h] at h2; cases h2
  have hr' : rung double r = r := by rw [hsp.1]; omega
  rw [hr'] at hW
  refine ⟨e, (mg_le_iff double).1 ?_, (mg_le_iff double).1 ?_⟩
  · rw [hW.1]
    refine Nat.le_trans ?_ (Nat.mul_le_mul_right _ ((mg_le_iff single).2 (show 1 ≤ rung single x from h0)))
    decide +kernel
  · rw [hW.1]
    refine Nat.le_trans (Nat.mul_le_mul_right _ ((mg_le_iff single).2 (show rung single x ≤ 2139095039 from by have : single.infRung = 2139095040 := rfl; omega))) ?_
    decide +kernel

theorem wid_zero {x r : Nat} (hv : val .f32 x = some x) (hr : FR .f64 r (wid (val .f32 x))) (h0 : rung single x = 0) : rung double r = 0 := by
  have e := (FR_wid hv hr).2
  have hW := W_fin (b := x) (by rw [h0]; decide)
  rw [← e] at hW
  have : mg double (rung double r) ≤ mg double 0 := by
    rw [hW.1, h0]; decide +kernel
  have := (mg_le_iff double).1 this
  omega

theorem nar_neginf : val .f64 18442240474082181120 = some 18442240474082181120 ∧ NarOk (some 18442240474082181120) ∧ nar (some 18442240474082181120) = some 4286578688 := by
  refine ⟨(nn_iff .f64 _).2 (by decide), fun b h => ?_, by show some (N _) = _; decide +kernel⟩
  cases h; left; decide

theorem nar_posinf {x r : Nat} (hv : val .f32 x = some x) (hr : FR .f64 r (wid (val .f32 x))) (hs : sgn single x = false) (h1 : rung single x = 2139095040) : r = 9218868437227405312 := by
  have e := (FR_wid hv hr).2
  have hW := W_inf (b := x) h1
  rw [← e] at hW
  have hlt : r < 18446744073709551616 := hr.lt
  have hsp := f64_split' hlt
  rw [hW.1, hW.2, hs] at hsp
  have h2 : ¬ 9223372036854775808 ≤ r := of_decide_eq_false hsp.2.symm
  have h3 : r % 9223372036854775808 = 9218868437227405312 := hsp.1.symm
  omega

theorem f32_zero_inf (x : Nat) (hx : x < 4294967296) (hs : sgn single x = false) (h1 : rung single x = 2139095040) : x = 2139095040 := by
  have e : rung single x = x % 2147483648 := rfl
  have e2 : sgn single x = decide (x / 2147483648 % 2 = 1) := rfl
  rw [hs] at e2
  have h2 := of_decide_eq_false e2.symm
  omega

/-- The kinds of number, each with what LogNumber gives for it. -/
theorem logNumV_nan {x : Nat} (hv : val .f32 x = none) : Hid (logNumV (val .f32 x) = none) := by rw [hv]; exact rfl
theorem logNumV_zero {x : Nat} (hv : val .f32 x = some x) (h : rung single x = 0) : Hid (logNumV (val .f32 x) = some 4286578688) := by
  rw [hv]; show (if _ then _ else _) = _; rw [if_pos h]
theorem logNumV_neg {x : Nat} (hv : val .f32 x = some x) (h : ¬ rung single x = 0) (hs : sgn single x = true) : Hid (logNumV (val .f32 x) = none) := by
  rw [hv]; show (if _ then _ else _) = _; rw [if_neg h, if_pos hs]
theorem logNumV_inf {x : Nat} (hv : val .f32 x = some x) (h : ¬ rung single x = 0) (hs : sgn single x = false) (hi : rung single x = 2139095040) : Hid (logNumV (val .f32 x) = some 2139095040) := by
  rw [hv]; show (if _ then _ else _) = _; rw [if_neg h, hs, if_neg (by decide), if_pos hi]
theorem logNumV_pos {x : Nat} (hv : val .f32 x = some x) (h : ¬ rung single x = 0) (hs : sgn single x = false) (hi : ¬ rung single x = 2139095040) : Hid (logNumV (val .f32 x) = nar (logV (W x))) := by
  rw [hv]; show (if _ then _ else _) = _; rw [if_neg h, hs, if_neg (by decide), if_neg hi]

theorem pow_zero_of {a : Nat} (k : Nat) (h : a * 2 ^ k = 0) : a = 0 := by
  rcases Nat.mul_eq_zero.1 h with h | h
  · exact h
  · exact absurd h (Nat.pos_iff_ne_zero.1 (Nat.two_pow_pos _))

theorem wid_neg {x r : Nat} (hv : val .f32 x = some x) (hr : FR .f64 r (wid (val .f32 x))) (hs : sgn single x = true) (h0 : 0 < rung single x) : sgn double r = true ∧ rung double r ≠ 0 := by
  have e := (FR_wid hv hr).2
  have hnn : rung single x ≤ 2139095040 := (nn_iff .f32 x).1 hv
  by_cases hi : rung single x = 2139095040
  · have hW := W_inf (b := x) hi
    rw [← e] at hW
    refine ⟨by rw [hW.2, hs], ?_⟩
    rw [hW.1]; decide
  · have hW := W_fin (b := x) (by show rung single x < 2139095040; omega)
    rw [← e] at hW
    refine ⟨by rw [hW.2.1, hs], fun h => ?_⟩
    have h1 := hW.1
    rw [h, show mg double 0 = 0 from by decide +kernel] at h1
    have h2 : 0 < mg single (rung single x) := mg_pos single h0
    have h3 := pow_zero_of 925 h1.symm
    omega

theorem posinf : val .f64 9218868437227405312 = some 9218868437227405312 ∧ NarOk (some 9218868437227405312) ∧ nar (some 9218868437227405312) = some 2139095040 := by
  refine ⟨(nn_iff .f64 _).2 (by decide), fun b h => ?_, by show some (N _) = _; decide +kernel⟩
  cases h; left; decide

end Go.Proofs.Ytilaempppmhohaa
