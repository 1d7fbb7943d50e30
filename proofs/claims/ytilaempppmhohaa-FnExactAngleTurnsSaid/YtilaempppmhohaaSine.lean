/-
  Plain: the sine of a number of turns as a function of values; it is far below the greatest float32.
-/
import Derived.Test.YtilaempppmhohaaFrac
namespace Go.Proofs.Ytilaempppmhohaa.Fl
open Ieee
set_option linter.unusedVariables false

def ONE : Nat := 4607182418800017408
def TWO : Nat := 4611686018427387904
def HALF : Nat := 4602678819172646912
def QUARTER : Nat := 4598175219545276416
def TURN : Nat := 4618760256179416344
/-- 2k(2k+1) for k from 8 down to 1. -/
def sinCs : List Nat := [4643492690795692032, 4641592734702895104, 4639692778610098176, 4637440978796412928, 4634766966517661696, 4631107791820423168, 4626322717216342016, 4618441417868443648]
/-- k from 8 down to 0. -/
def sinKs : List Nat := [4620693217682128896, 4619567317775286272, 4618441417868443648, 4617315517961601024, 4616189618054758400, 4613937818241073152, 4611686018427387904, 4607182418800017408, 0]
def sinC (i : Nat) : Nat := sinCs.getD i 0
def sinK (i : Nat) : Nat := sinKs.getD i 0

/-- The series' value behind i rounds. -/
def sinP (u : Option Nat) : Nat → Option Nat
  | 0 => some ONE
  | i + 1 => bin .sub .f64 (some ONE) (bin .quo .f64 (bin .mul .f64 u (sinP u i)) (some (sinC i)))

def geqV (X Y : Option Nat) : Bool := cmp .f64 X Y == some .gt || cmp .f64 X Y == some .eq
def gtV (X Y : Option Nat) : Bool := cmp .f64 X Y == some .gt
def ltV (X Y : Option Nat) : Bool := cmp .f64 X Y == some .lt

theorem vZERO : val .f64 0 = some 0 := (nn_iff .f64 0).2 (by decide)
theorem vONE : val .f64 4607182418800017408 = some ONE := (nn_iff .f64 4607182418800017408).2 (by decide)
theorem vTWO : val .f64 4611686018427387904 = some TWO := (nn_iff .f64 4611686018427387904).2 (by decide)
theorem vHALF : val .f64 4602678819172646912 = some HALF := (nn_iff .f64 4602678819172646912).2 (by decide)
theorem vQUARTER : val .f64 4598175219545276416 = some QUARTER := (nn_iff .f64 4598175219545276416).2 (by decide)
theorem vTURN : val .f64 4618760256179416344 = some TURN := (nn_iff .f64 4618760256179416344).2 (by decide)

/-- x without its whole part n, not below zero. -/
def fracV (X : Option Nat) (n : Int) : Option Nat :=
  let f := bin .sub .f64 X (some (floatOfInt .f64 n))
  if ltV f (some 0) then bin .add .f64 f (some ONE) else f

def fold1 (f : Option Nat) : Option Nat := if geqV f (some HALF) then bin .sub .f64 f (some HALF) else f
def fold2 (f : Option Nat) : Option Nat := if gtV f (some QUARTER) then bin .sub .f64 (some HALF) f else f
def sinZ (f : Option Nat) : Option Nat := bin .mul .f64 (fold2 (fold1 f)) (some TURN)
def sinQ (f : Option Nat) : Option Nat := bin .mul .f64 (sinZ f) (sinP (bin .mul .f64 (sinZ f) (sinZ f)) 8)
/-- The sine of f turns, f from 0 to 1. -/
def sineV (f : Option Nat) : Option Nat := if geqV f (some HALF) then negV64 (sinQ f) else sinQ f

/-! ### It stays small -/

def sinTs : List Nat := [4607182418800017408, 4629700416936869888, 4656722014701092864, 4683743612465315840, 4715268809856909312, 4746794007248502784, 4782822804267466752, 4823355200913801216, 4872894796814876672]
def sinT (i : Nat) : Nat := sinTs.getD i 0

theorem sinT_step : ∀ i, i < 8 → ∃ a b, mg double 4661225614328463360 * mg double (sinT i) ≤ mg double a * 2 ^ 1074 ∧ 2 * mg double a * 2 ^ 1074 ≤ mg double b * mg double (sinC i) ∧ mg double ONE + mg double b ≤ mg double (sinT (i + 1)) ∧ a < double.infRung ∧ b < double.infRung ∧ sinT i < double.infRung ∧ sinC i < double.infRung ∧ 0 < sinC i ∧ rung double (sinC i) = sinC i := by
  intro i hi
  match i, hi with
  | 0, _ => exact ⟨4661225614328463360, 4629418941960159232, by decide +kernel⟩
  | 1, _ => exact ⟨4683743612465315840, 4656717616654581760, by decide +kernel⟩
  | 2, _ => exact ⟨4710765210229538816, 4683743543745839104, by decide +kernel⟩
  | 3, _ => exact ⟨4737786807993761792, 4715268809320038400, by decide +kernel⟩
  | 4, _ => exact ⟨4769312005385355264, 4746794007244308480, by decide +kernel⟩
  | 5, _ => exact ⟨4800837202776948736, 4782822804267450368, by decide +kernel⟩
  | 6, _ => exact ⟨4836865999795912704, 4823355200913801184, by decide +kernel⟩
  | 7, _ => exact ⟨4877398396442247168, 4872894796814876671, by decide +kernel⟩

theorem sinP_bd {u : Option Nat} (hu : Bd u 4661225614328463360) : ∀ i, i ≤ 8 → Bd (sinP u i) (sinT i) := by
  intro i
  induction i with
  | zero => intro _; exact Bd.const ONE
  | succ i ih =>
    intro hi
    obtain ⟨a, b, h1, h2, h3, ha, hb, hT, hc, hc0, hcr⟩ := sinT_step i (by omega)
    have hp := ih (by omega)
    have e1 := Bd.mul hu hp a (by decide) hT (by rw [under_double]; exact h1)
    have e2 := Bd.quo e1 (sinC i) b ha (by rw [hcr]; exact hc) (by rw [hcr]; exact hc0) (by rw [hcr, under_double]; exact h2)
    exact Bd.sub (Bd.const ONE) e2 (sinT (i + 1)) (by decide) hb (by rw [show rung double ONE = ONE by decide]; exact h3)

theorem frac_bd {X : Option Nat} {n : Int} (h : Bd (bin .sub .f64 X (some (floatOfInt .f64 n))) ONE) : Bd (fracV X n) TWO := by
  unfold fracV
  dsimp only
  split
  · exact Bd.add h (Bd.const ONE) TWO (by decide) (by decide) (by decide +kernel)
  · exact h.mono (by decide)

theorem sinZ_bd {f : Option Nat} (h : Bd f TWO) : Bd (sinZ f) 4634204016564240384 := by
  unfold sinZ
  have h1 : Bd (fold1 f) 4616189618054758400 := by
    unfold fold1
    split
    · exact Bd.sub h (Bd.const HALF) _ (by decide) (by decide) (by decide +kernel)
    · exact h.mono (by decide)
  have h2 : Bd (fold2 (fold1 f)) 4620693217682128896 := by
    unfold fold2
    split
    · exact Bd.sub (Bd.const HALF) h1 _ (by decide) (by decide) (by decide +kernel)
    · exact h1.mono (by decide)
  exact Bd.mul h2 (Bd.const TURN) _ (by decide) (by decide) (by rw [under_double]; decide +kernel)

theorem sinQ_bd {f : Option Nat} (h : Bd f TWO) : Bd (sinQ f) 4899916394579099648 := by
  unfold sinQ
  have hz := sinZ_bd h
  have hu : Bd (bin .mul .f64 (sinZ f) (sinZ f)) 4661225614328463360 := Bd.mul hz hz _ (by decide) (by decide) (by rw [under_double]; decide +kernel)
  have hp := sinP_bd hu 8 (Nat.le_refl _)
  exact Bd.mul hz hp _ (by decide) (by decide) (by rw [under_double]; decide +kernel)

theorem bin_lt {op : BinOp} {X Y : Option Nat} {b : Nat} (h : bin op .f64 X Y = some b) : b < 18446744073709551616 := by
  cases X with
  | none => cases h
  | some x =>
    cases Y with
    | none => cases h
    | some y => exact floatBits_lt (k := .f64) h

theorem sineV_bd {f : Option Nat} (h : Bd f TWO) : Bd (sineV f) 4899916394579099648 := by
  unfold sineV
  split
  · exact (sinQ_bd h).neg (fun b hb => bin_lt hb)
  · exact sinQ_bd h

theorem sineV_ok {f : Option Nat} (h : Bd f TWO) : NarOk (sineV f) := (sineV_bd h).narOk (by decide +kernel)

/-- The constants of the round, as the program reckons them. -/
theorem sin_consts : ∀ i, i < 8 → bin .mul .f64 (bin .mul .f64 (some TWO) (some (sinK i))) (bin .add .f64 (bin .mul .f64 (some TWO) (some (sinK i))) (some ONE)) = some (sinC i) ∧
    bin .sub .f64 (some (sinK i)) (some ONE) = some (sinK (i + 1)) ∧ floatOfInt .f64 (2 * (8 - (i : Int)) * (2 * (8 - (i : Int)) + 1)) = sinC i := by
  intro i hi
  match i, hi with
  | 0, _ => decide +kernel
  | 1, _ => decide +kernel
  | 2, _ => decide +kernel
  | 3, _ => decide +kernel
  | 4, _ => decide +kernel
  | 5, _ => decide +kernel
  | 6, _ => decide +kernel
  | 7, _ => decide +kernel

theorem sin_test : ∀ i, i ≤ 8 → (FloatKind.f64.format.order (sinK i) ONE == some .gt || FloatKind.f64.format.order (sinK i) ONE == some .eq) = decide (i < 8) := by
  intro i hi
  match i, hi with
  | 0, _ => decide +kernel
  | 1, _ => decide +kernel
  | 2, _ => decide +kernel
  | 3, _ => decide +kernel
  | 4, _ => decide +kernel
  | 5, _ => decide +kernel
  | 6, _ => decide +kernel
  | 7, _ => decide +kernel
  | 8, _ => decide +kernel

theorem vSinK (i : Nat) (hi : i ≤ 8) : val .f64 (sinK i) = some (sinK i) := by
  match i, hi with
  | 0, _ => exact (nn_iff .f64 _).2 (by decide)
  | 1, _ => exact (nn_iff .f64 _).2 (by decide)
  | 2, _ => exact (nn_iff .f64 _).2 (by decide)
  | 3, _ => exact (nn_iff .f64 _).2 (by decide)
  | 4, _ => exact (nn_iff .f64 _).2 (by decide)
  | 5, _ => exact (nn_iff .f64 _).2 (by decide)
  | 6, _ => exact (nn_iff .f64 _).2 (by decide)
  | 7, _ => exact (nn_iff .f64 _).2 (by decide)
  | 8, _ => exact (nn_iff .f64 _).2 (by decide)

theorem sinK_lt (i : Nat) (hi : i < 8) : sinK (i + 1) < sinK i := by
  match i, hi with
  | 0, _ => decide
  | 1, _ => decide
  | 2, _ => decide
  | 3, _ => decide
  | 4, _ => decide
  | 5, _ => decide
  | 6, _ => decide
  | 7, _ => decide

end Go.Proofs.Ytilaempppmhohaa.Fl
