/-
  Plain: the natural logarithm as a function of values: halving and doubling a float64 on its bits; the series; it stays small.
-/
import Derived.Test.YtilaempppmhohaaSine
namespace Go.Proofs.Ytilaempppmhohaa.Fl
open Ieee
set_option linter.unusedVariables false

def LN2 : Nat := 4604418534313441775
theorem vLN2 : val .f64 4604418534313441775 = some LN2 := (nn_iff .f64 4604418534313441775).2 (by decide)

/-- Positive words by their bits. -/
theorem pos64 {a : Nat} (h : a ≤ 9218868437227405312) : rung double a = a ∧ sgn double a = false ∧ val .f64 a = some a := by
  have e : rung double a = a := by show a % 9223372036854775808 = a; omega
  refine ⟨e, ?_, (nn_iff .f64 a).2 (by show rung double a ≤ _; rw [e]; exact h)⟩
  unfold sgn
  rw [show double.signWeight = 9223372036854775808 from rfl, show a / 9223372036854775808 = 0 by omega]; rfl

theorem order_pos {a c : Nat} (ha : a ≤ 9218868437227405312) (hc : c ≤ 9218868437227405312) : FloatKind.f64.format.order a c = some (compare (a : Int) (c : Int)) := by
  obtain ⟨a1, a2, _⟩ := pos64 ha
  obtain ⟨c1, c2, _⟩ := pos64 hc
  rw [order_key .f64 (by show rung double a ≤ _; rw [a1]; exact ha) (by show rung double c ≤ _; rw [c1]; exact hc)]
  have k1 : key double a = (a : Int) := by unfold key; rw [a2, a1]; rfl
  have k2 : key double c = (c : Int) := by unfold key; rw [c2, c1]; rfl
  show some (compare (key double a) (key double c)) = _
  rw [k1, k2]

theorem geq_pos {a c : Nat} (ha : a ≤ 9218868437227405312) (hc : c ≤ 9218868437227405312) : (FloatKind.f64.format.order a c == some .gt || FloatKind.f64.format.order a c == some .eq) = decide (c ≤ a) := by
  rw [order_pos ha hc, Bool.eq_iff_iff]
  simp only [Bool.or_eq_true, beq_iff_eq, Option.some.injEq, Int.compare_eq_gt, Int.compare_eq_eq, decide_eq_true_eq]
  omega

theorem lt_pos {a c : Nat} (ha : a ≤ 9218868437227405312) (hc : c ≤ 9218868437227405312) : (FloatKind.f64.format.order a c == some .lt) = decide (a < c) := by
  rw [order_pos ha hc, Bool.eq_iff_iff]
  simp only [beq_iff_eq, Option.some.injEq, Int.compare_eq_lt, decide_eq_true_eq]
  omega

/-- A normal word's magnitude doubles a binade up. -/
theorem mg_up {a : Nat} (h : 4503599627370496 ≤ a) : mg double (a + 4503599627370496) = 2 * mg double a := by
  unfold mg
  rw [show double.binade = 4503599627370496 from rfl, if_neg (by omega), if_neg (by omega), Nat.add_mod_right, Nat.add_div_right _ (by decide)]
  obtain ⟨q, hq⟩ : ∃ q, a / 4503599627370496 = q + 1 := ⟨a / 4503599627370496 - 1, by have := (Nat.one_le_div_iff (by decide : 0 < 4503599627370496)).2 h; omega⟩
  rw [hq]
  show _ * 2 ^ (q + 1) = 2 * (_ * 2 ^ q)
  rw [Nat.pow_succ]; ac_rfl

theorem dbl_bits {a : Nat} (h : 4503599627370496 ≤ a) (hi : a + 4503599627370496 < 9218868437227405312) : bin .mul .f64 (some a) (some TWO) = some (a + 4503599627370496) := by
  obtain ⟨a1, a2, _⟩ := pos64 (a := a) (by omega)
  obtain ⟨t1, t2, _⟩ := pos64 (a := a + 4503599627370496) (by omega)
  obtain ⟨r, hr, hn⟩ := near_mul .f64 (x := a) (y := TWO) (by show rung double a < 9218868437227405312; omega) (by decide)
  rw [hr]
  have hv : iv double a * iv double TWO = ((mg double a * mg double TWO : Nat) : Int) := by
    unfold iv; rw [a2, a1, show sgn double TWO = false by decide, show rung double TWO = TWO by decide]
    unfold sg; simp
  have hn' : Near double r ((mg double a * mg double TWO : Nat) : Int) (under double) := by rw [← hv]; exact hn
  have hT : mg double TWO = 2 * 2 ^ under double := by rw [under_double]; decide +kernel
  have e : rung double r = a + 4503599627370496 := hn'.eq (by show _ ≤ 9218868437227405312; omega) (by
    rw [mg_up h, Int.natAbs_natCast, hT]; ac_rfl)
  have hpos : 0 < mg double a := mg_pos double (by omega)
  have hs : sgn double r = false := by
    rw [hn'.sign (by
      have : 0 < mg double a * mg double TWO := Nat.mul_pos hpos (mg_pos double (by decide))
      omega)]
    exact decide_eq_false (by omega)
  have hlt : r < 18446744073709551616 := bin_lt hr
  refine congrArg some ?_
  rw [(f64_split' hlt).1] at e
  have := (f64_split' hlt).2
  rw [hs] at this
  have h2 : ¬ 9223372036854775808 ≤ r := by
    intro h'; rw [decide_eq_true h'] at this; cases this
  omega

theorem half_gen (U V : Nat) (hL : double.leastPlace = -(U : Int)) (hUV : V + 51 = U) (eT : double.read TWO = .number false 4503599627370496 (double.leastPlace + (V : Nat))) {a : Nat} (h : 9007199254740992 ≤ a) (hi : a < 9218868437227405312) : bin .quo .f64 (some a) (some TWO) = some (a - 4503599627370496) := by
  obtain ⟨a1, a2, _⟩ := pos64 (a := a) (by omega)
  obtain ⟨m, j, e1, e1', hmr⟩ := read_fin_lt double (b := a) (by show rung double a < 9218868437227405312; omega)
  rw [a2] at e1
  obtain ⟨more, hmoredef⟩ : ∃ more, more = double.fractionBits + 2 + (4503599627370496 : Nat).log2 - m.log2 := ⟨_, rfl⟩
  have hlog : m.log2 ≤ 52 := by
    by_cases hm : m = 0
    · rw [hm]; decide
    · have := (Nat.log2_lt hm).2 hmr
      have : double.fractionBits = 52 := rfl
      omega
  have hmore : 54 ≤ more := by
    rw [hmoredef, show double.fractionBits = 52 from rfl, show (4503599627370496 : Nat).log2 = 52 from by decide +kernel]; omega
  have hD : m <<< more = m * 2 ^ (more - 52) * 4503599627370496 := by
    rw [Nat.shiftLeft_eq, Nat.mul_assoc, show (4503599627370496 : Nat) = 2 ^ 52 from rfl, ← Nat.pow_add]; congr 2; omega
  obtain ⟨r, hrdef⟩ : ∃ r, r = double.nearest false (2 * (m * 2 ^ (more - 52))) (double.leastPlace + j - (double.leastPlace + (V : Nat)) - more - 1) := ⟨_, rfl⟩
  have hres : bin .quo .f64 (some a) (some TWO) = some r := by
    show (((double.read a).quotient (double.fractionBits + 2) (double.read TWO)).map double.write) = _
    rw [e1, eT]
    simp only [Datum.quotient]
    rw [if_neg (by decide), ← hmoredef, hD, Nat.mul_mod_left, Nat.mul_div_cancel _ (by decide), hrdef]; rfl
  have hn := near_nearest double false (2 * (m * 2 ^ (more - 52))) (double.leastPlace + j - (double.leastPlace + (V : Nat)) - more - 1) (j + U) (V + more + 1) (by rw [hL]; omega) (sg false (2 * (m * 2 ^ (more - 52)) * 2 ^ (j + U))) (sg_natAbs _ _) (sg_sign _ _)
  rw [← hrdef] at hn
  have hup := mg_up (a := a - 4503599627370496) (by omega)
  rw [show a - 4503599627370496 + 4503599627370496 = a by omega] at hup
  have hm0 : 0 < m := by
    have hmgp : 0 < mg double a := mg_pos double (by omega)
    rcases Nat.eq_zero_or_pos m with h' | h'
    · rw [h', Nat.zero_mul, a1] at e1'; omega
    · exact h'
  have e : rung double r = a - 4503599627370496 := hn.eq (by show _ ≤ 9218868437227405312; omega) (by
    rw [sg_natAbs]
    have h1 : m * 2 ^ j = 2 * mg double (a - 4503599627370496) := by rw [e1', a1, hup]
    generalize mg double (a - 4503599627370496) = M at *
    have h2 : 2 * (m * 2 ^ (more - 52)) * 2 ^ (j + U) = (m * 2 ^ j) * (2 * (2 ^ (more - 52) * 2 ^ U)) := by rw [Nat.pow_add]; ac_rfl
    rw [h2, h1]
    have h3 : 2 ^ (V + more + 1) = 2 * (2 * (2 ^ (more - 52) * 2 ^ U)) := by
      have : 2 * (2 * (2 ^ (more - 52) * 2 ^ U)) = 2 ^ (1 + (1 + ((more - 52) + U))) := by rw [Nat.pow_add 2 1, Nat.pow_add 2 1, Nat.pow_add 2 (more - 52)]
      rw [this]; congr 1; omega
    rw [h3]; ac_rfl)
  have hvpos : 0 < 2 * (m * 2 ^ (more - 52)) * 2 ^ (j + U) := Nat.mul_pos (Nat.mul_pos (by decide) (Nat.mul_pos hm0 (Nat.two_pow_pos _))) (Nat.two_pow_pos _)
  generalize 2 * (m * 2 ^ (more - 52)) * 2 ^ (j + U) = VV at *
  have hs : sgn double r = false := by
    rw [hn.sign (by unfold sg; simp only [Bool.false_eq_true, if_false]; omega)]
    unfold sg
    simp only [Bool.false_eq_true, if_false]
    exact decide_eq_false (by omega)
  have hlt : r < 18446744073709551616 := bin_lt hres
  rw [hres]
  refine congrArg some ?_
  rw [(f64_split' hlt).1] at e
  have := (f64_split' hlt).2
  rw [hs] at this
  have h2 : ¬ 9223372036854775808 ≤ r := by
    intro h'; rw [decide_eq_true h'] at this; cases this
  omega

theorem half_bits {a : Nat} (h : 9007199254740992 ≤ a) (hi : a < 9218868437227405312) : bin .quo .f64 (some a) (some TWO) = some (a - 4503599627370496) :=
  half_gen 1074 1023 (by decide) (by decide) (by decide +kernel) h hi

/-- How often a word is halved till it is below 1.5. -/
def loopA (b : Nat) : Nat := if 4609434218613702656 ≤ b then (b - 4609434218613702656) / 4503599627370496 + 1 else 0
/-- How often it is then doubled till it is not below 0.75. -/
def loopB (b : Nat) : Nat := if b < 4604930618986332160 then (4604930618986332160 - b + 4503599627370495) / 4503599627370496 else 0

theorem loopA_spec (b i : Nat) (hi : i ≤ loopA b) : 4609434218613702656 ≤ b - i * 4503599627370496 ↔ i < loopA b := by
  unfold loopA at *
  split at hi <;> rename_i h
  · rw [if_pos h]; omega
  · rw [if_neg h]; omega

theorem loopA_room (b i : Nat) (hb : 3936146074321813504 ≤ b) (hi : i ≤ loopA b) : i * 4503599627370496 ≤ b ∧ 3936146074321813504 ≤ b - i * 4503599627370496 := by
  unfold loopA at hi
  split at hi <;> omega

theorem loopB_spec (b j : Nat) (hj : j ≤ loopB b) : b + j * 4503599627370496 < 4604930618986332160 ↔ j < loopB b := by
  unfold loopB at *
  split at hj <;> rename_i h
  · rw [if_pos h]; omega
  · rw [if_neg h]; omega

theorem loopB_end (b : Nat) (hb : b < 4609434218613702656) : 4604930618986332160 ≤ b + loopB b * 4503599627370496 ∧ b + loopB b * 4503599627370496 < 4609434218613702656 := by
  unfold loopB
  split <;> omega

theorem eInc (n : Nat) (h : n < 200) : bin .add .f64 (some (floatOfInt .f64 (n : Int))) (some ONE) = some (floatOfInt .f64 ((n : Int) + 1)) := by
  have key : (List.range 200).all (fun n => decide (bin .add .f64 (some (floatOfInt .f64 (n : Int))) (some ONE) = some (floatOfInt .f64 ((n : Int) + 1)))) = true := by decide +kernel
  have := List.all_eq_true.1 key n (List.mem_range.2 h)
  exact of_decide_eq_true this

theorem eDec (n : Nat) (h : n < 400) : bin .sub .f64 (some (floatOfInt .f64 (200 - (n : Int)))) (some ONE) = some (floatOfInt .f64 (199 - (n : Int))) := by
  have key : (List.range 400).all (fun n => decide (bin .sub .f64 (some (floatOfInt .f64 (200 - (n : Int)))) (some ONE) = some (floatOfInt .f64 (199 - (n : Int))))) = true := by decide +kernel
  have := List.all_eq_true.1 key n (List.mem_range.2 h)
  exact of_decide_eq_true this

theorem eDec' (e : Int) (h0 : -199 < e) (h1 : e ≤ 200) : bin .sub .f64 (some (floatOfInt .f64 e)) (some ONE) = some (floatOfInt .f64 (e - 1)) := by
  obtain ⟨n, hn⟩ : ∃ n : Nat, e = 200 - (n : Int) := ⟨(200 - e).toNat, by omega⟩
  have := eDec n (by omega)
  rw [hn, this, show (200 : Int) - n - 1 = 199 - n by omega]

/-! ### The series -/

/-- 25, 23, .., 1, -1. -/
def logKs : List Nat := [4627730092099895296, 4627167142146473984, 4626604192193052672, 4626041242239631360, 4625478292286210048, 4624633867356078080, 4623507967449235456, 4622382067542392832, 4621256167635550208, 4619567317775286272, 4617315517961601024, 4613937818241073152, 4607182418800017408, 13830554455654793216]
def logK (i : Nat) : Nat := logKs.getD i 0

def logQ (u : Option Nat) : Nat → Option Nat
  | 0 => some 0
  | i + 1 => bin .add .f64 (bin .quo .f64 (some ONE) (some (logK i))) (bin .mul .f64 u (logQ u i))

def logS (b : Nat) : Option Nat := bin .quo .f64 (bin .sub .f64 (some b) (some ONE)) (bin .add .f64 (some b) (some ONE))

/-- What is left of b when it is halved and doubled; and how often. -/
def logR (b : Nat) : Nat := b - loopA b * 4503599627370496 + loopB (b - loopA b * 4503599627370496) * 4503599627370496
def logE (b : Nat) : Int := (loopA b : Int) - (loopB (b - loopA b * 4503599627370496) : Int)

/-- The natural logarithm of a positive finite number. -/
def logV (b : Nat) : Option Nat :=
  bin .add .f64 (bin .mul .f64 (some TWO) (bin .mul .f64 (logS (logR b)) (logQ (bin .mul .f64 (logS (logR b)) (logS (logR b))) 13))) (bin .mul .f64 (some (floatOfInt .f64 (logE b))) (some LN2))

theorem log_consts : ∀ i, i < 13 → val .f64 (logK i) = some (logK i) ∧ bin .sub .f64 (some (logK i)) (some TWO) = some (logK (i + 1)) ∧ floatOfInt .f64 (25 - 2 * (i : Int)) = logK i ∧
    ((FloatKind.f64.format.order (logK i) ONE == some .gt || FloatKind.f64.format.order (logK i) ONE == some .eq) = true) := by
  intro i hi
  have key : (List.range 13).all (fun i => decide (val .f64 (logK i) = some (logK i) ∧ bin .sub .f64 (some (logK i)) (some TWO) = some (logK (i + 1)) ∧ floatOfInt .f64 (25 - 2 * (i : Int)) = logK i ∧
    ((FloatKind.f64.format.order (logK i) ONE == some .gt || FloatKind.f64.format.order (logK i) ONE == some .eq) = true))) = true := by decide +kernel
  have := List.all_eq_true.1 key i (List.mem_range.2 hi)
  exact of_decide_eq_true this

theorem log_end : (FloatKind.f64.format.order (logK 13) ONE == some .gt || FloatKind.f64.format.order (logK 13) ONE == some .eq) = false := by decide +kernel

theorem logK_lt : ∀ i, i < 13 → (if logK (i + 1) < 9223372036854775808 then logK (i + 1) else 0) < (if logK i < 9223372036854775808 then logK i else 0) := by
  intro i hi
  have key : (List.range 13).all (fun i => decide ((if logK (i + 1) < 9223372036854775808 then logK (i + 1) else 0) < (if logK i < 9223372036854775808 then logK i else 0))) = true := by decide +kernel
  have := List.all_eq_true.1 key i (List.mem_range.2 hi)
  exact of_decide_eq_true this

/-! ### It stays small -/

theorem Bd.quoGe {X Y : Option Nat} {R : Nat} (hx : Bd X R) (c : Nat) (hy : ∃ y, Y = some y ∧ c ≤ rung double y ∧ rung double y < double.infRung) (T : Nat) (hR : R < double.infRung) (hc0 : 0 < c) (hT : 2 * mg double R * 2 ^ under double ≤ mg double T * mg double c) : Bd (bin .quo .f64 X Y) T := by
  obtain ⟨x, rfl, lx⟩ := hx
  obtain ⟨y, rfl, ly, hyi⟩ := hy
  obtain ⟨r, hr, hq⟩ := quo_le .f64 (x := x) (y := y) (by show rung double x < double.infRung; omega) hyi (by show 0 < rung double y; omega)
  refine ⟨r, hr, hq T ?_⟩
  have h1 := (mg_le_iff double).2 lx
  have h2 := (mg_le_iff double).2 ly
  exact Nat.le_trans (Nat.le_trans (Nat.mul_le_mul_right _ (Nat.mul_le_mul_left _ h1)) hT) (Nat.mul_le_mul_left _ h2)

theorem logS_bd {b : Nat} (h0 : 4604930618986332160 ≤ b) (h1 : b < 4609434218613702656) : Bd (logS b) 4620693217682128896 := by
  obtain ⟨b1, b2, b3⟩ := pos64 (a := b) (by omega)
  have hb : Bd (some b) TWO := ⟨b, rfl, by rw [b1]; show b ≤ 4611686018427387904; omega⟩
  have hs : Bd (bin .sub .f64 (some b) (some ONE)) 4616189618054758400 := Bd.sub hb (Bd.const ONE) _ (by decide) (by decide) (by decide +kernel)
  have ha : ∃ y, bin .add .f64 (some b) (some ONE) = some y ∧ ONE ≤ rung double y ∧ rung double y < double.infRung := by
    obtain ⟨r, hr, hn⟩ := near_add .f64 (x := b) (y := ONE) (by show rung double b < 9218868437227405312; omega) (by decide)
    have hv : iv double b + iv double ONE = ((mg double b + mg double ONE : Nat) : Int) := by
      unfold iv; rw [b2, b1, show sgn double ONE = false by decide, show rung double ONE = ONE by decide]
      unfold sg; simp
    have hn' : Near double r ((mg double b + mg double ONE : Nat) : Int) 0 := by rw [← hv]; exact hn
    refine ⟨r, hr, hn'.ge (by decide) ?_, Nat.lt_of_le_of_lt (hn'.le (s := 4616189618054758400) ?_) (by decide)⟩
    · rw [Int.natAbs_natCast, Nat.pow_zero, Nat.mul_one]; omega
    · rw [Int.natAbs_natCast, Nat.pow_zero, Nat.mul_one]
      have : mg double b ≤ mg double TWO := (mg_le_iff double).2 (by show b ≤ 4611686018427387904; omega)
      have h2 : mg double TWO + mg double ONE ≤ mg double 4616189618054758400 := by decide +kernel
      omega
  exact Bd.quoGe hs ONE ha _ (by decide) (by decide) (by rw [under_double]; decide +kernel)

def logT (i : Nat) : Nat := 4611686018427387904 + i * 31525197391593472

theorem logT_step : ∀ i, i < 13 → ∃ a, mg double 4634204016564240384 * mg double (logT i) ≤ mg double a * 2 ^ 1074 ∧ mg double TWO + mg double a ≤ mg double (logT (i + 1)) ∧ a < double.infRung ∧ logT i < double.infRung ∧ 0 < rung double (logK i) ∧ rung double (logK i) < double.infRung ∧ 2 * mg double ONE * 2 ^ 1074 ≤ mg double TWO * mg double (rung double (logK i)) := by
  intro i hi
  refine ⟨logT i + 27021597764222976, ?_⟩
  have key : (List.range 13).all (fun i => decide (mg double 4634204016564240384 * mg double (logT i) ≤ mg double (logT i + 27021597764222976) * 2 ^ 1074 ∧ mg double TWO + mg double (logT i + 27021597764222976) ≤ mg double (logT (i + 1)) ∧ logT i + 27021597764222976 < double.infRung ∧ logT i < double.infRung ∧ 0 < rung double (logK i) ∧ rung double (logK i) < double.infRung ∧ 2 * mg double ONE * 2 ^ 1074 ≤ mg double TWO * mg double (rung double (logK i)))) = true := by decide +kernel
  have := List.all_eq_true.1 key i (List.mem_range.2 hi)
  exact of_decide_eq_true this

theorem logQ_bd {u : Option Nat} (hu : Bd u 4634204016564240384) : ∀ i, i ≤ 13 → Bd (logQ u i) (logT i) := by
  intro i
  induction i with
  | zero => intro _; exact (Bd.const 0).mono (by decide)
  | succ i ih =>
    intro hi
    obtain ⟨a, h1, h2, ha, hT, hk0, hk1, hq⟩ := logT_step i (by omega)
    have hp := ih (by omega)
    have e1 := Bd.mul hu hp a (by decide) hT (by rw [under_double]; exact h1)
    have e2 := Bd.quo (Bd.const ONE) (logK i) TWO (by decide) hk1 hk0 (by rw [under_double, show rung double ONE = ONE by decide]; exact hq)
    exact Bd.add e2 e1 (logT (i + 1)) (by decide) ha h2

theorem log_range {b : Nat} (hb : 3936146074321813504 ≤ b) (hb2 : b ≤ 5183643170566569984) : loopA b ≤ 128 ∧ loopB (b - loopA b * 4503599627370496) ≤ 150 ∧ 4604930618986332160 ≤ logR b ∧ logR b < 4609434218613702656 := by
  have hr := loopA_room b (loopA b) hb (Nat.le_refl _)
  have hs := loopA_spec b (loopA b) (Nat.le_refl _)
  have he := loopB_end (b - loopA b * 4503599627370496) (by omega)
  refine ⟨?_, ?_, he.1, he.2⟩
  · unfold loopA; split <;> omega
  · generalize b - loopA b * 4503599627370496 = c at *
    unfold loopB; split <;> omega

theorem logV_ok {b : Nat} (hb : 3936146074321813504 ≤ b) (hb2 : b ≤ 5183643170566569984) : NarOk (logV b) := by
  obtain ⟨hA, hB, h0, h1⟩ := log_range hb hb2
  have hs := logS_bd h0 h1
  have hu : Bd (bin .mul .f64 (logS (logR b)) (logS (logR b))) 4634204016564240384 := Bd.mul hs hs _ (by decide) (by decide) (by rw [under_double]; decide +kernel)
  have hq := logQ_bd hu 13 (Nat.le_refl _)
  have h2 : Bd (bin .mul .f64 (logS (logR b)) (logQ (bin .mul .f64 (logS (logR b)) (logS (logR b))) 13)) 5057542381537067008 := Bd.mul hs hq _ (by decide) (by decide +kernel) (by rw [under_double]; decide +kernel)
  have h3 : Bd (bin .mul .f64 (some TWO) (bin .mul .f64 (logS (logR b)) (logQ (bin .mul .f64 (logS (logR b)) (logS (logR b))) 13))) 5062045981164437504 := Bd.mul (Bd.const TWO) h2 _ (by decide) (by decide) (by rw [under_double, show rung double TWO = TWO by decide]; decide +kernel)
  have he : Bd (some (floatOfInt .f64 (logE b))) 5057542381537067008 := by
    obtain ⟨s, n, hn, hlt⟩ : ∃ (s : Bool) (n : Nat), logE b = sg s n ∧ n < 1024 := ⟨decide (logE b < 0), (logE b).natAbs, by unfold sg; split <;> rename_i h <;> simp at h <;> omega, by unfold logE; omega⟩
    rw [hn]
    obtain ⟨hf, hv⟩ := ofInt_spec 1074 (by decide) s n (by omega)
    refine ⟨_, rfl, ?_⟩
    rw [← mg_le_iff double, ← iv_abs, hv, Int.natAbs_mul, sg_natAbs, Int.natAbs_natCast]
    refine Nat.le_trans (Nat.mul_le_mul_right _ (show n ≤ 1024 by omega)) ?_
    decide +kernel
  have h4 : Bd (bin .mul .f64 (some (floatOfInt .f64 (logE b))) (some LN2)) 5057542381537067008 := Bd.mul he (Bd.const LN2) _ (by decide) (by decide) (by rw [under_double, show rung double LN2 = LN2 by decide]; decide +kernel)
  exact (Bd.add h3 h4 5066549580791808000 (by decide) (by decide) (by decide +kernel)).narOk (by decide +kernel)

end Go.Proofs.Ytilaempppmhohaa.Fl
