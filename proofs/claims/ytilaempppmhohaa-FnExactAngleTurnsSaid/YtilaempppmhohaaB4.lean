/-
  Contracts and the law: SineTurns on both sides.
-/
import Derived.Test.YtilaempppmhohaaB3
import Derived.Test.YtilaempppmhohaaB1
namespace Go.Proofs.Ytilaempppmhohaa
open Fl Ieee Go.RowKit
set_option linter.unusedVariables false

/-- x - x, of a finite number: a zero; of an infinity: no number. -/
theorem sub_self (k : FloatKind) {x : Nat} (h : rung k.format x < k.format.infRung) : cmp k (bin .sub k (some x) (some x)) (some 0) = some .eq := by
  obtain ⟨r, hr, hn⟩ := near_sub k h h
  have hz : rung k.format r = 0 := by
    have := hn.le (s := 0) (by rw [Int.sub_self]; simp)
    omega
  rw [hr]
  show k.format.order r 0 = _
  have hi : 0 < k.format.infRung := by cases k <;> decide
  have h0 : rung k.format 0 = 0 := by unfold rung; simp
  rw [order_key k (by omega) (by omega)]
  have e1 : key k.format r = 0 := by unfold key; rw [hz]; split <;> rfl
  have e2 : key k.format 0 = 0 := by unfold key; rw [h0]; split <;> rfl
  rw [e1, e2]; rfl

theorem sub_inf (k : FloatKind) {x : Nat} (h : rung k.format x = k.format.infRung) : bin .sub k (some x) (some x) = none := by
  show (((k.format.read x).sum (k.format.read x).opposite).map k.format.write) = none
  rw [read_inf k.format (binade_le k) h]
  show (Option.map _ (if sgn k.format x = (!sgn k.format x) then _ else _)) = _
  rw [if_neg (by cases sgn k.format x <;> decide)]; rfl

theorem isFin_some {x : Nat} (h : val .f32 x = some x) : isFin (val .f32 x) = decide (rung single x < single.infRung) := by
  have hnn := (nn_iff .f32 x).1 h
  rw [h]
  unfold isFin
  rcases Nat.lt_or_ge (rung single x) single.infRung with h' | h'
  · rw [sub_self .f32 h', decide_eq_true h']; rfl
  · have e : rung single x = single.infRung := by
      have : rung single x ≤ single.infRung := hnn
      omega
    rw [sub_inf .f32 e, decide_eq_false (by omega)]; rfl

/-- The whole part of a value. -/
def wholeV (X : Option Nat) : Int := match X with | some b => (floatToIntVal .f64 b .i64).getD 0 | none => 0

/-- Is a value below 2^52? -/
def belowV (X : Option Nat) : Bool := match X with | some b => decide (rung double b < 4841369599423283200) | none => false

/-- The sine of a number of turns. -/
def sineTurnsV (X : Option Nat) : Option Nat :=
  if isFin X then (if belowV (wid X) then nar (sineV (fracV (wid X) (wholeV (wid X)))) else some 0) else none

theorem small_frac {x : Nat} (h : rung double x < 4841369599423283200) : ∃ n : Int, floatToIntVal .f64 x .i64 = some n ∧ Bd (bin .sub .f64 (some x) (some (floatOfInt .f64 n))) ONE := by
  obtain ⟨n, hn, r, hr, hle⟩ := frac_le 1074 (by decide) (b := x) (Nat.lt_trans h (by decide)) (by
    have := (mg_lt_iff double).2 h
    have e : mg double 4841369599423283200 = 2 ^ 52 * 2 ^ 1074 := by decide +kernel
    rw [← e]; exact this) ONE (by decide +kernel)
  exact ⟨n, hn, r, hr, hle⟩

theorem nan_val : val .f64 9221120237041090561 = none := by rw [val64, if_neg (by decide)]

theorem math_NaN (w : World) : Calls Try.prog 21 #[] w fun e w' => e = .returned (.float .f64 9221120237041090561) ∧ w' = w := by
  go_enter Try.func21, Try.ntmps21
  go_wp2
  go_ret
  exact ⟨rfl, rfl⟩

theorem FR_wid {x r : Nat} (hv : val .f32 x = some x) (hr : FR .f64 r (wid (val .f32 x))) : val .f64 r = some r ∧ r = W x := by
  have e := wid_some hv hr
  refine ⟨?_, e⟩
  rw [hr.val, hv, e]; rfl

/-- The test of the program: is the absolute value 2^52 or more? -/
theorem abs_geq {r : Nat} (hlt : r < 18446744073709551616) (hv : val .f64 r = some r) : (FloatKind.f64.format.order (r % 9223372036854775808) 4841369599423283200 == some .gt || FloatKind.f64.format.order (r % 9223372036854775808) 4841369599423283200 == some .eq) = !decide (rung double r < 4841369599423283200) := by
  have hnn := (nn_iff .f64 r).1 hv
  have hr1 : rung double (r % 9223372036854775808) = rung double r := by show r % 9223372036854775808 % 9223372036854775808 = r % 9223372036854775808; omega
  have hs : sgn double (r % 9223372036854775808) = false := by rw [(f64_split (by omega)).2]; simp; omega
  have hk : key double (r % 9223372036854775808) = (rung double r : Int) := by unfold key; rw [hs, hr1]; rfl
  have hkc : key double 4841369599423283200 = (4841369599423283200 : Int) := by decide
  rw [order_key .f64 (by show rung double _ ≤ double.infRung; rw [hr1]; exact hnn) (by decide)]
  show (some (compare (key double (r % 9223372036854775808)) (key double 4841369599423283200)) == some .gt || some (compare (key double (r % 9223372036854775808)) (key double 4841369599423283200)) == some .eq) = _
  rw [hk, hkc, Bool.eq_iff_iff]
  simp only [Bool.or_eq_true, beq_iff_eq, Option.some.injEq, Int.compare_eq_gt, Int.compare_eq_eq, Bool.not_eq_true', decide_eq_false_iff_not]
  omega

/-- The tests of the reference. -/
theorem hi_geq {r : Nat} (hv : val .f64 r = some r) : (FloatKind.f64.format.order r 4841369599423283200 == some .gt || FloatKind.f64.format.order r 4841369599423283200 == some .eq) = decide (sgn double r = false ∧ ¬ rung double r < 4841369599423283200) := by
  have hnn := (nn_iff .f64 r).1 hv
  have hkc : key double 4841369599423283200 = (4841369599423283200 : Int) := by decide
  rw [order_key .f64 hnn (by decide)]
  show (some (compare (key double r) (key double 4841369599423283200)) == some .gt || some (compare (key double r) (key double 4841369599423283200)) == some .eq) = _
  rw [hkc, Bool.eq_iff_iff]
  simp only [Bool.or_eq_true, beq_iff_eq, Option.some.injEq, Int.compare_eq_gt, Int.compare_eq_eq, decide_eq_true_eq]
  unfold key
  cases sgn double r <;> simp <;> omega

theorem lo_leq {r : Nat} (hv : val .f64 r = some r) : (FloatKind.f64.format.order r 14064741636278059008 == some .lt || FloatKind.f64.format.order r 14064741636278059008 == some .eq) = decide (sgn double r = true ∧ ¬ rung double r < 4841369599423283200) := by
  have hnn := (nn_iff .f64 r).1 hv
  have hkc : key double 14064741636278059008 = (-4841369599423283200 : Int) := by decide
  rw [order_key .f64 hnn (by decide)]
  show (some (compare (key double r) (key double 14064741636278059008)) == some .lt || some (compare (key double r) (key double 14064741636278059008)) == some .eq) = _
  rw [hkc, Bool.eq_iff_iff]
  simp only [Bool.or_eq_true, beq_iff_eq, Option.some.injEq, Int.compare_eq_lt, Int.compare_eq_eq, decide_eq_true_eq]
  unfold key
  cases sgn double r <;> simp <;> omega

theorem nar_zero : NarOk (some 0) ∧ nar (some 0) = some 0 := ⟨NarOk.of_le (by decide +kernel), by show some (N 0) = some 0; rw [show N 0 = 0 by decide +kernel]⟩

end Go.Proofs.Ytilaempppmhohaa
