/-
  Plain facts: a float64 below 2^52 without its whole part; whole numbers as floats.
-/
import Derived.Test.YtilaempppmhohaaOps
import Derived.Laws.FloatArith
namespace Go.Proofs.Ytilaempppmhohaa.Fl
open Ieee
set_option linter.unusedVariables false

theorem cut_zero (s : Bool) (n d : Nat) : Toward.zero.cut s n d = n / 2 ^ d := by
  unfold Toward.cut
  dsimp only
  by_cases h : d ≤ n.log2 + 2
  · rw [gap_eq n d h]; rfl
  · rw [Nat.min_eq_right (by omega), Nat.shiftLeft_eq, Nat.one_mul]
    have hlt : n < 2 ^ (n.log2 + 1) := Nat.lt_log2_self
    have h1 : 2 ^ (n.log2 + 1) ≤ 2 ^ (n.log2 + 2) := Nat.pow_le_pow_right (by omega) (by omega)
    have h2 : 2 ^ (n.log2 + 1) ≤ 2 ^ d := Nat.pow_le_pow_right (by omega) (by omega)
    rw [Nat.div_eq_of_lt (by omega), Nat.div_eq_of_lt (by omega)]; rfl

/-- A finite float64's whole part: n whole units below its magnitude. -/
theorem toInt_fin (U : Nat) (hL : double.leastPlace = -(U : Int)) {b : Nat} (h : rung double b < double.infRung) : ∃ n : Nat, (double.read b).toInt .zero = some (sg (sgn double b) n) ∧ n * 2 ^ U ≤ mg double (rung double b) ∧ mg double (rung double b) < (n + 1) * 2 ^ U := by
  obtain ⟨m, j, hr, hm⟩ := read_fin double h
  rw [hr]
  simp only [Datum.toInt, Datum.integral]
  rw [cut_zero, signed_sg, Nat.pow_zero, Nat.mul_one, Nat.shiftLeft_eq]
  refine ⟨_, rfl, ?_, ?_⟩
  all_goals rw [← hm]
  all_goals rw [hL]
  all_goals
    by_cases hj : j ≤ U
    · rw [show (-(U : Int) + (j : Int)).toNat = 0 by omega, show (-(-(U : Int) + (j : Int))).toNat = U - j by omega, Nat.pow_zero, Nat.mul_one]
      have e : 2 ^ U = 2 ^ (U - j) * 2 ^ j := by rw [← Nat.pow_add]; congr 1; omega
      rw [e, ← Nat.mul_assoc]
      have hp : 0 < 2 ^ (U - j) := Nat.two_pow_pos _
      have hdm := Nat.div_add_mod m (2 ^ (U - j))
      have hlt := Nat.mod_lt m hp
      first
        | (refine Nat.mul_le_mul_right _ ?_; rw [Nat.mul_comm]; omega)
        | (refine Nat.mul_lt_mul_of_pos_right ?_ (Nat.two_pow_pos _); rw [Nat.add_mul, Nat.one_mul, Nat.mul_comm]; omega)
    · rw [show (-(U : Int) + (j : Int)).toNat = j - U by omega, show (-(-(U : Int) + (j : Int))).toNat = 0 by omega, Nat.pow_zero, Nat.div_one]
      have e : 2 ^ j = 2 ^ (j - U) * 2 ^ U := by rw [← Nat.pow_add]; congr 1; omega
      rw [e, ← Nat.mul_assoc]
      first
        | exact Nat.le_refl _
        | exact Nat.mul_lt_mul_of_pos_right (by omega) (Nat.two_pow_pos _)

/-- A whole number below 2^53 as a float64 is exact. -/
theorem ofInt_spec (U : Nat) (hL : double.leastPlace = -(U : Int)) (s : Bool) (n : Nat) (hn : n < 2 ^ 53) : rung double (floatOfInt .f64 (sg s n)) < double.infRung ∧ iv double (floatOfInt .f64 (sg s n)) = sg s n * ((2 ^ U : Nat) : Int) := by
  have hnear : Near double (floatOfInt .f64 (sg s n)) (sg s (n * 2 ^ U)) 0 := by
    show Near double (double.nearest (decide (sg s n < 0)) (sg s n).natAbs 0) _ 0
    refine near_nearest double _ _ 0 U 0 (by rw [hL]; omega) _ ?_ ?_
    · rw [sg_natAbs, sg_natAbs]
    · intro h
      rw [decide_eq_decide, sg_mul]
      have hp : (0 : Int) < ((2 ^ U : Nat) : Int) := by exact_mod_cast Nat.two_pow_pos _
      constructor
      · intro h'
        have := Int.mul_neg_of_neg_of_pos h' hp
        omega
      · intro h'
        refine Int.not_le.1 fun h2 => ?_
        have := Int.mul_nonneg h2 (Int.le_of_lt hp)
        omega
  obtain ⟨t, ht⟩ := mg_surj double n U hn
  have htlt : t < double.infRung := by
    rw [← mg_lt_iff double, ht]
    have : n * 2 ^ U < 2 ^ 53 * 2 ^ U := Nat.mul_lt_mul_of_pos_right hn (Nat.two_pow_pos _)
    have hU : U = 1074 := by have : double.leastPlace = -1074 := by decide
                             omega
    subst hU
    have h2 : 2 ^ 53 * 2 ^ 1074 < mg double double.infRung := by decide +kernel
    omega
  have hrung : rung double (floatOfInt .f64 (sg s n)) = t := hnear.eq (by omega) (by rw [ht, sg_natAbs]; simp)
  refine ⟨by rw [hrung]; exact htlt, ?_⟩
  unfold iv
  rw [hrung, ht, ← sg_mul]
  by_cases hv : sg s (n * 2 ^ U) = 0
  · have h0 : n * 2 ^ U = 0 := by have := congrArg Int.natAbs hv; rwa [sg_natAbs] at this
    rw [h0]; unfold sg; simp
  · rw [hnear.sign hv, ← sg_sign _ _ hv]

/-- x less its whole part is at most one. -/
theorem frac_le (U : Nat) (hL : double.leastPlace = -(U : Int)) {b : Nat} (h : rung double b < double.infRung) (hb : mg double (rung double b) < 2 ^ 52 * 2 ^ U) (one : Nat) (hone : mg double one = 2 ^ U) :
    ∃ n : Int, floatToIntVal .f64 b .i64 = some n ∧ ∃ r, bin .sub .f64 (some b) (some (floatOfInt .f64 n)) = some r ∧ rung double r ≤ one := by
  obtain ⟨n, hn, h1, h2⟩ := toInt_fin U hL h
  have hnlt : n < 2 ^ 52 := by
    have : n * 2 ^ U < 2 ^ 52 * 2 ^ U := by omega
    exact Nat.lt_of_mul_lt_mul_right this
  refine ⟨sg (sgn double b) n, ?_, ?_⟩
  · unfold floatToIntVal
    have hn' : (FloatKind.f64.decode b).toInt .zero = some (sg (sgn double b) n) := hn
    rw [hn']
    dsimp only
    have : IntKind.i64.min ≤ sg (sgn double b) n ∧ sg (sgn double b) n ≤ IntKind.i64.max := by
      have hmin : IntKind.i64.min = -9223372036854775808 := by decide
      have hmax : IntKind.i64.max = 9223372036854775807 := by decide
      rw [hmin, hmax]; unfold sg; cases sgn double b <;> simp <;> omega
    rw [if_pos this]
  · obtain ⟨hf, hv⟩ := ofInt_spec U hL (sgn double b) n (by omega)
    obtain ⟨r, hr, hnear⟩ := near_sub .f64 (x := b) (y := floatOfInt .f64 (sg (sgn double b) n)) h hf
    refine ⟨r, hr, hnear.le (s := one) ?_⟩
    have hv' : iv FloatKind.f64.format (floatOfInt .f64 (sg (sgn double b) n)) = sg (sgn double b) n * ((2 ^ U : Nat) : Int) := hv
    rw [hv', ← sg_mul]
    show (iv double b - sg (sgn double b) (n * 2 ^ U)).natAbs ≤ mg double one * 2 ^ 0
    rw [hone, Nat.pow_zero, Nat.mul_one]
    unfold iv sg
    rw [Nat.add_mul, Nat.one_mul] at h2
    generalize n * 2 ^ U = Q at *
    generalize 2 ^ U = V at *
    cases sgn double b <;> simp <;> omega

/-- A value is a finite number of magnitude at most R's. -/
def Bd (X : Option Nat) (R : Nat) : Prop := ∃ b, X = some b ∧ rung double b ≤ R

theorem Bd.mono {X : Option Nat} {R S : Nat} (h : Bd X R) (hs : R ≤ S) : Bd X S := let ⟨b, e, l⟩ := h; ⟨b, e, Nat.le_trans l hs⟩

theorem Bd.const (c : Nat) : Bd (some c) (rung double c) := ⟨c, rfl, Nat.le_refl _⟩

theorem iv_abs (f : Format) (b : Nat) : (iv f b).natAbs = mg f (rung f b) := sg_natAbs _ _

theorem Bd.add {X Y : Option Nat} {R S : Nat} (hx : Bd X R) (hy : Bd Y S) (T : Nat) (hR : R < double.infRung) (hS : S < double.infRung) (hT : mg double R + mg double S ≤ mg double T) : Bd (bin .add .f64 X Y) T := by
  obtain ⟨x, rfl, lx⟩ := hx
  obtain ⟨y, rfl, ly⟩ := hy
  obtain ⟨r, hr, hn⟩ := near_add .f64 (x := x) (y := y) (by show rung double x < double.infRung; omega) (by show rung double y < double.infRung; omega)
  refine ⟨r, hr, hn.le (s := T) ?_⟩
  have h1 := (mg_le_iff double).2 lx
  have h2 := (mg_le_iff double).2 ly
  have e1 := iv_abs double x
  have e2 := iv_abs double y
  show (iv double x + iv double y).natAbs ≤ mg double T * 2 ^ 0
  rw [Nat.pow_zero, Nat.mul_one]
  omega

theorem Bd.sub {X Y : Option Nat} {R S : Nat} (hx : Bd X R) (hy : Bd Y S) (T : Nat) (hR : R < double.infRung) (hS : S < double.infRung) (hT : mg double R + mg double S ≤ mg double T) : Bd (bin .sub .f64 X Y) T := by
  obtain ⟨x, rfl, lx⟩ := hx
  obtain ⟨y, rfl, ly⟩ := hy
  obtain ⟨r, hr, hn⟩ := near_sub .f64 (x := x) (y := y) (by show rung double x < double.infRung; omega) (by show rung double y < double.infRung; omega)
  refine ⟨r, hr, hn.le (s := T) ?_⟩
  have h1 := (mg_le_iff double).2 lx
  have h2 := (mg_le_iff double).2 ly
  have e1 := iv_abs double x
  have e2 := iv_abs double y
  show (iv double x - iv double y).natAbs ≤ mg double T * 2 ^ 0
  rw [Nat.pow_zero, Nat.mul_one]
  omega

theorem Bd.mul {X Y : Option Nat} {R S : Nat} (hx : Bd X R) (hy : Bd Y S) (T : Nat) (hR : R < double.infRung) (hS : S < double.infRung) (hT : mg double R * mg double S ≤ mg double T * 2 ^ under double) : Bd (bin .mul .f64 X Y) T := by
  obtain ⟨x, rfl, lx⟩ := hx
  obtain ⟨y, rfl, ly⟩ := hy
  obtain ⟨r, hr, hn⟩ := near_mul .f64 (x := x) (y := y) (by show rung double x < double.infRung; omega) (by show rung double y < double.infRung; omega)
  refine ⟨r, hr, hn.le (s := T) ?_⟩
  have h1 := (mg_le_iff double).2 lx
  have h2 := (mg_le_iff double).2 ly
  show (iv double x * iv double y).natAbs ≤ mg double T * 2 ^ under double
  rw [Int.natAbs_mul, iv_abs, iv_abs]
  exact Nat.le_trans (Nat.mul_le_mul h1 h2) hT

/-- A quotient by a constant. -/
theorem Bd.quo {X : Option Nat} {R : Nat} (hx : Bd X R) (c : Nat) (T : Nat) (hR : R < double.infRung) (hc : rung double c < double.infRung) (hc0 : 0 < rung double c) (hT : 2 * mg double R * 2 ^ under double ≤ mg double T * mg double (rung double c)) : Bd (bin .quo .f64 X (some c)) T := by
  obtain ⟨x, rfl, lx⟩ := hx
  obtain ⟨r, hr, hq⟩ := quo_le .f64 (x := x) (y := c) (by show rung double x < double.infRung; omega) hc hc0
  refine ⟨r, hr, hq T ?_⟩
  have h1 := (mg_le_iff double).2 lx
  exact Nat.le_trans (Nat.mul_le_mul_right _ (Nat.mul_le_mul_left _ h1)) hT

/-- The negated value. -/
def negV64 (X : Option Nat) : Option Nat := X.map (· ^^^ 9223372036854775808)

theorem neg_bits64 (x : Nat) (hx : x < 18446744073709551616) : (x ^^^ 9223372036854775808) < 18446744073709551616 ∧ (x ^^^ 9223372036854775808) % 9223372036854775808 = x % 9223372036854775808 := by
  have h1 : x ^^^ 9223372036854775808 < 2 ^ 64 := Nat.xor_lt_two_pow (by omega) (by decide)
  refine ⟨h1, ?_⟩
  show (x ^^^ 2 ^ 63) % 2 ^ 63 = x % 2 ^ 63
  rw [Nat.xor_mod_two_pow]
  simp

theorem Bd.neg {X : Option Nat} {R : Nat} (hx : Bd X R) (hlt : ∀ b, X = some b → b < 18446744073709551616) : Bd (negV64 X) R := by
  obtain ⟨x, rfl, lx⟩ := hx
  refine ⟨_, rfl, ?_⟩
  have := (neg_bits64 x (hlt x rfl)).2
  show (x ^^^ 9223372036854775808) % 9223372036854775808 ≤ R
  rw [this]; exact lx

theorem Bd.narOk {X : Option Nat} {R : Nat} (hx : Bd X R) (h : mg double R ≤ mg single (single.infRung - 1) * 2 ^ 925) : NarOk X := by
  obtain ⟨x, rfl, lx⟩ := hx
  exact NarOk.of_le (Nat.le_trans ((mg_le_iff double).2 lx) h)

end Go.Proofs.Ytilaempppmhohaa.Fl
