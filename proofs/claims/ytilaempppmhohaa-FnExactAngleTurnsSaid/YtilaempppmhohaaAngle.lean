/-
  Plain facts on the angle that the program computes: its value, and that it stays small.
-/
import Derived.Test.YtilaempppmhohaaLog
namespace Go.Proofs.Ytilaempppmhohaa.Fl
open Ieee
set_option linter.unusedVariables false

def EIGHT : Nat := 4620693217682128896
theorem vEIGHT : val .f64 4620693217682128896 = some EIGHT := (nn_iff .f64 4620693217682128896).2 (by decide)

/-- The tangent behind i halvings of the angle. -/
def angT (t : Option Nat) : Nat → Option Nat
  | 0 => t
  | i + 1 => bin .quo .f64 (angT t i) (bin .add .f64 (some ONE) (sqrtV (bin .add .f64 (some ONE) (bin .mul .f64 (angT t i) (angT t i)))))

/-- The series' value behind i rounds. -/
def angQ (u : Option Nat) : Nat → Option Nat
  | 0 => some 0
  | i + 1 => bin .sub .f64 (bin .quo .f64 (some ONE) (some (logK (i + 5)))) (bin .mul .f64 u (angQ u i))

def ang0 (T : Option Nat) : Option Nat := bin .quo .f64 (bin .mul .f64 (some EIGHT) (bin .mul .f64 T (angQ (bin .mul .f64 T T) 8))) (some TURN)
def ang1 (g : Bool) (A : Option Nat) : Option Nat := if g then bin .sub .f64 (some QUARTER) A else A
def ang2 (g : Bool) (A : Option Nat) : Option Nat := if g then bin .sub .f64 (some HALF) A else A
def ang3 (g : Bool) (A : Option Nat) : Option Nat := if g then negV64 A else A
def angS (g : Bool) (a b : Nat) : Option Nat := if g then bin .quo .f64 (some b) (some a) else bin .quo .f64 (some a) (some b)
def angV (g xn yn : Bool) (a b : Nat) : Option Nat := ang3 yn (ang2 xn (ang1 g (ang0 (angT (angS g a b) 3))))

theorem gt_pos {a c : Nat} (ha : a ≤ 9218868437227405312) (hc : c ≤ 9218868437227405312) : (FloatKind.f64.format.order a c == some .gt) = decide (c < a) := by
  rw [order_pos ha hc, Bool.eq_iff_iff]
  simp only [beq_iff_eq, Option.some.injEq, Int.compare_eq_gt, decide_eq_true_eq]
  omega

theorem sgn_nearest (f : Format) (neg : Bool) (mag : Nat) (p : Int) : sgn f (f.nearest neg mag p) = neg := by
  unfold Format.nearest
  split
  · exact sgn_word f neg (Nat.zero_le _)
  · exact sgn_word f neg (Nat.min_le_right _ _)

theorem sqrt_pos {x : Nat} (hx : rung double x < double.infRung) (hs : sgn double x = false) : ∃ r, double.sqrt x = some r ∧ sgn double r = false := by
  obtain ⟨m, a, e1, _⟩ := read_fin double hx
  unfold Format.sqrt
  rw [e1, hs]
  simp only [Datum.root]
  by_cases hm : m = 0
  · rw [if_pos hm]
    exact ⟨_, rfl, sgn_nearest double _ _ _⟩
  · rw [if_neg hm, if_neg (by decide)]
    exact ⟨_, rfl, sgn_nearest double _ _ _⟩

theorem iv_nonneg {b : Nat} (h : sgn double b = false ∨ rung double b = 0) : 0 ≤ iv double b := by
  unfold iv sg
  rcases h with h | h
  · rw [h]; simp
  · rw [h, mg_zero]; split <;> simp

theorem iv_one : iv double ONE = (mg double ONE : Int) := by
  unfold iv; rw [show sgn double ONE = false by decide, show rung double ONE = ONE by decide]; rfl

/-- One and something that is not negative: at least one. -/
theorem one_add {b R T : Nat} (h : 0 ≤ iv double b) (hR : rung double b ≤ R) (hRi : R < double.infRung) (hT : mg double ONE + mg double R ≤ mg double T) (hTi : T < double.infRung) :
    ∃ r, bin .add .f64 (some ONE) (some b) = some r ∧ ONE ≤ rung double r ∧ rung double r ≤ T ∧ sgn double r = false := by
  obtain ⟨r, hr, hn⟩ := near_add .f64 (x := ONE) (y := b) (by decide) (by show rung double b < double.infRung; omega)
  have hb : (iv double b).natAbs = mg double (rung double b) := iv_abs _ _
  have hm := (mg_le_iff double).2 hR
  have hpos : 0 < mg double ONE := mg_pos double (by decide)
  have hv : iv FloatKind.f64.format ONE + iv FloatKind.f64.format b = ((mg double ONE + mg double (rung double b) : Nat) : Int) := by
    show iv double ONE + iv double b = _
    rw [iv_one]; omega
  have hn' : Near double r ((mg double ONE + mg double (rung double b) : Nat) : Int) 0 := by rw [← hv]; exact hn
  refine ⟨r, hr, hn'.ge (by decide) ?_, hn'.le (s := T) ?_, ?_⟩
  · rw [Int.natAbs_natCast, Nat.pow_zero, Nat.mul_one]; omega
  · rw [Int.natAbs_natCast, Nat.pow_zero, Nat.mul_one]; omega
  · rw [hn'.sign (by omega)]; exact decide_eq_false (by omega)

/-- A square is not negative. -/
theorem sq_nonneg {t R : Nat} (h : rung double t ≤ R) (hR : R < double.infRung) (T : Nat) (hT : mg double R * mg double R ≤ mg double T * 2 ^ 1074) :
    ∃ r, bin .mul .f64 (some t) (some t) = some r ∧ rung double r ≤ T ∧ 0 ≤ iv double r := by
  obtain ⟨r, hr, hn⟩ := near_mul .f64 (x := t) (y := t) (by show rung double t < double.infRung; omega) (by show rung double t < double.infRung; omega)
  have hm := (mg_le_iff double).2 h
  have hab : (iv double t * iv double t).natAbs = mg double (rung double t) * mg double (rung double t) := by rw [Int.natAbs_mul, iv_abs]
  have hn' : Near double r (iv double t * iv double t) (under double) := hn
  have hge : 0 ≤ iv double t * iv double t := by rw [← Int.natAbs_mul_self]; exact Int.natCast_nonneg _
  refine ⟨r, hr, hn'.le (s := T) ?_, iv_nonneg ?_⟩
  · rw [hab, under_double]; exact Nat.le_trans (Nat.mul_le_mul hm hm) hT
  · by_cases h0 : iv double t * iv double t = 0
    · right
      have := hn'.le (s := 0) (by rw [h0]; simp)
      omega
    · left
      rw [hn'.sign h0]; exact decide_eq_false (by omega)

theorem ang_step {T : Option Nat} (R S : Nat) (hT : Bd T R) (hR : R ≤ 4620693217682128896) (hS : 2 * mg double R ≤ mg double S) :
    Bd (bin .quo .f64 T (bin .add .f64 (some ONE) (sqrtV (bin .add .f64 (some ONE) (bin .mul .f64 T T))))) S := by
  obtain ⟨t, rfl, lt⟩ := hT
  obtain ⟨m, hm, lm, nm⟩ := sq_nonneg (t := t) (R := 4620693217682128896) (by omega) (by decide) 4634204016564240384 (by decide +kernel)
  obtain ⟨p, hp, gp, lp, sp⟩ := one_add (b := m) (R := 4634204016564240384) (T := 4638707616191610880) nm lm (by decide) (by decide +kernel) (by decide)
  obtain ⟨s, hs, ss⟩ := sqrt_pos (x := p) (Nat.lt_of_le_of_lt lp (by decide)) sp
  have ls := root_le 1074 (by decide) (x := p) (Nat.lt_of_le_of_lt lp (by decide)) hs 4643211215818981376 (by
    refine Nat.le_trans (Nat.mul_le_mul_right _ (Nat.mul_le_mul_left _ ((mg_le_iff double).2 lp))) ?_
    decide +kernel)
  obtain ⟨d, hd, gd, ld, _⟩ := one_add (b := s) (R := 4643211215818981376) (T := 4647714815446351872) (iv_nonneg (.inl ss)) ls (by decide) (by decide +kernel) (by decide)
  have e : bin .add .f64 (some ONE) (sqrtV (bin .add .f64 (some ONE) (bin .mul .f64 (some t) (some t)))) = some d := by
    rw [hm, hp]
    show bin .add .f64 (some ONE) (double.sqrt p) = some d
    rw [hs, hd]
  rw [e]
  refine Bd.quoGe (R := R) ⟨t, rfl, lt⟩ ONE ⟨d, rfl, gd, Nat.lt_of_le_of_lt ld (by decide)⟩ S (Nat.lt_of_le_of_lt hR (by decide)) (by decide) ?_
  have e1 : mg double ONE = 2 ^ 1074 := by decide +kernel
  rw [under_double, e1]
  exact Nat.mul_le_mul_right _ hS

theorem angT_bd {t : Option Nat} (h : Bd t TWO) : Bd (angT t 3) 4625196817309499392 := by
  have h1 := ang_step TWO 4616189618054758400 h (by decide) (by decide +kernel)
  have h2 := ang_step 4616189618054758400 4620693217682128896 h1 (by decide) (by decide +kernel)
  exact ang_step 4620693217682128896 4625196817309499392 h2 (by decide) (by decide +kernel)

def angB (i : Nat) : Nat := 4611686018427387904 + i * 40532396646334464

theorem angB_step : ∀ i, i < 8 → mg double 4643211215818981376 * mg double (angB i) ≤ mg double (angB i + 36028797018963968) * 2 ^ 1074 ∧ mg double TWO + mg double (angB i + 36028797018963968) ≤ mg double (angB (i + 1)) ∧ angB i + 36028797018963968 < double.infRung ∧ angB i < double.infRung ∧ 0 < rung double (logK (i + 5)) ∧ rung double (logK (i + 5)) < double.infRung ∧ 2 * mg double ONE * 2 ^ 1074 ≤ mg double TWO * mg double (rung double (logK (i + 5))) := by
  intro i hi
  have key : (List.range 8).all (fun i => decide (mg double 4643211215818981376 * mg double (angB i) ≤ mg double (angB i + 36028797018963968) * 2 ^ 1074 ∧ mg double TWO + mg double (angB i + 36028797018963968) ≤ mg double (angB (i + 1)) ∧ angB i + 36028797018963968 < double.infRung ∧ angB i < double.infRung ∧ 0 < rung double (logK (i + 5)) ∧ rung double (logK (i + 5)) < double.infRung ∧ 2 * mg double ONE * 2 ^ 1074 ≤ mg double TWO * mg double (rung double (logK (i + 5))))) = true := by decide +kernel
  have := List.all_eq_true.1 key i (List.mem_range.2 hi)
  exact of_decide_eq_true this

theorem angQ_bd {u : Option Nat} (hu : Bd u 4643211215818981376) : ∀ i, i ≤ 8 → Bd (angQ u i) (angB i) := by
  intro i
  induction i with
  | zero => intro _; exact (Bd.const 0).mono (by decide)
  | succ i ih =>
    intro hi
    obtain ⟨h1, h2, ha, hT, hk0, hk1, hq⟩ := angB_step i (by omega)
    have hp := ih (by omega)
    have e1 := Bd.mul hu hp (angB i + 36028797018963968) (by decide) hT (by rw [under_double]; exact h1)
    have e2 := Bd.quo (Bd.const ONE) (logK (i + 5)) TWO (by decide) hk1 hk0 (by rw [under_double, show rung double ONE = ONE by decide]; exact hq)
    exact Bd.sub e2 e1 (angB (i + 1)) (by decide) ha h2

theorem ang0_bd {T : Option Nat} (h : Bd T 4625196817309499392) : Bd (ang0 T) 4980981187871768576 := by
  have hu : Bd (bin .mul .f64 T T) 4643211215818981376 := Bd.mul h h _ (by decide) (by decide) (by rw [under_double]; decide +kernel)
  have hq := angQ_bd hu 8 (Nat.le_refl _)
  have h1 : Bd (bin .mul .f64 T (angQ (bin .mul .f64 T T) 8)) 4967470388989657088 := Bd.mul h hq _ (by decide) (by decide +kernel) (by rw [under_double]; decide +kernel)
  have h2 : Bd (bin .mul .f64 (some EIGHT) (bin .mul .f64 T (angQ (bin .mul .f64 T T) 8))) 4980981187871768576 := Bd.mul (Bd.const EIGHT) h1 _ (by decide) (by decide) (by rw [under_double, show rung double EIGHT = EIGHT by decide]; decide +kernel)
  exact Bd.quo h2 TURN _ (by decide) (by decide) (by decide) (by rw [under_double, show rung double TURN = TURN by decide]; decide +kernel)

theorem bd_bits {X : Option Nat} {R : Nat} (h : Bd X R) (hlt : ∀ b, X = some b → b < 18446744073709551616) : Bd (negV64 X) R := Bd.neg h hlt

theorem angS_bd (a b : Nat) (ha : a < 9218868437227405312) (hb : b < 9218868437227405312) (h : 0 < a ∨ 0 < b) : Bd (angS (decide (b < a)) a b) TWO := by
  have e2 : mg double TWO = 2 * 2 ^ 1074 := by decide +kernel
  unfold angS
  by_cases hg : b < a
  · rw [if_pos (decide_eq_true hg)]
    obtain ⟨b1, _, _⟩ := pos64 (a := a) (by omega)
    obtain ⟨c1, _, _⟩ := pos64 (a := b) (by omega)
    refine Bd.quoGe (R := b) ⟨b, rfl, by rw [c1]; exact Nat.le_refl _⟩ a ⟨a, rfl, by rw [b1]; exact Nat.le_refl _, by rw [b1]; exact ha⟩ _ hb (by omega) ?_
    rw [under_double, e2]
    have hm : mg double b ≤ mg double a := (mg_le_iff double).2 (by omega)
    generalize 2 ^ 1074 = V
    calc 2 * mg double b * V ≤ 2 * mg double a * V := Nat.mul_le_mul_right _ (Nat.mul_le_mul_left _ hm)
      _ = 2 * V * mg double a := by ac_rfl
  · rw [if_neg (by simpa using hg)]
    obtain ⟨b1, _, _⟩ := pos64 (a := a) (by omega)
    obtain ⟨c1, _, _⟩ := pos64 (a := b) (by omega)
    refine Bd.quoGe (R := a) ⟨a, rfl, by rw [b1]; exact Nat.le_refl _⟩ b ⟨b, rfl, by rw [c1]; exact Nat.le_refl _, by rw [c1]; exact hb⟩ _ ha (by omega) ?_
    rw [under_double, e2]
    have hm : mg double a ≤ mg double b := (mg_le_iff double).2 (by omega)
    generalize 2 ^ 1074 = V
    calc 2 * mg double a * V ≤ 2 * mg double b * V := Nat.mul_le_mul_right _ (Nat.mul_le_mul_left _ hm)
      _ = 2 * V * mg double b := by ac_rfl

theorem angV_ok (xn yn : Bool) (a b : Nat) (ha : a < 9218868437227405312) (hb : b < 9218868437227405312) (h : 0 < a ∨ 0 < b) : NarOk (angV (decide (b < a)) xn yn a b) := by
  have h0 := ang0_bd (angT_bd (angS_bd a b ha hb h))
  generalize decide (b < a) = g at *
  have hb0 : ∀ x, ang0 (angT (angS g a b) 3) = some x → x < 18446744073709551616 := fun x hx => bin_lt hx
  have h1 : Bd (ang1 g (ang0 (angT (angS g a b) 3))) 4985484787499139072 ∧ ∀ x, ang1 g (ang0 (angT (angS g a b) 3)) = some x → x < 18446744073709551616 := by
    cases g
    · exact ⟨h0.mono (by decide), hb0⟩
    · exact ⟨Bd.sub (Bd.const QUARTER) h0 _ (by decide) (by decide) (by decide +kernel), fun x hx => bin_lt hx⟩
  have h2 : Bd (ang2 xn (ang1 g (ang0 (angT (angS g a b) 3)))) 4989988387126509568 ∧ ∀ x, ang2 xn (ang1 g (ang0 (angT (angS g a b) 3))) = some x → x < 18446744073709551616 := by
    cases xn
    · exact ⟨h1.1.mono (by decide), h1.2⟩
    · exact ⟨Bd.sub (Bd.const HALF) h1.1 _ (by decide) (by decide) (by decide +kernel), fun x hx => bin_lt hx⟩
  have h3 : Bd (angV g xn yn a b) 4989988387126509568 := by
    cases yn
    · exact h2.1
    · exact Bd.neg h2.1 h2.2
  exact h3.narOk (by decide +kernel)

theorem ang_consts : ∀ i, i < 8 → val .f64 (logK (i + 5)) = some (logK (i + 5)) ∧ bin .sub .f64 (some (logK (i + 5))) (some TWO) = some (logK (i + 1 + 5)) ∧ floatOfInt .f64 (15 - 2 * (i : Int)) = logK (i + 5) ∧
    (FloatKind.f64.format.order (logK (i + 5)) ONE == some .gt || FloatKind.f64.format.order (logK (i + 5)) ONE == some .eq) = true := by
  intro i hi
  have := log_consts (i + 5) (by omega)
  refine ⟨this.1, ?_, ?_, this.2.2.2⟩
  · rw [show i + 1 + 5 = i + 5 + 1 by omega]; exact this.2.1
  · rw [← this.2.2.1]; congr 1; push_cast; omega

end Go.Proofs.Ytilaempppmhohaa.Fl
