/-
  Contracts: the sine of a number of turns, the reference's side.
-/
import Derived.Test.YtilaempppmhohaaB2
namespace Go.Proofs.Ytilaempppmhohaa
open Fl Ieee Go.RowKit
set_option linter.unusedVariables false

theorem sin_wrap : ∀ i : Nat, i < 8 → floatOfInt .f64 (wrap64 (2 * (8 - (i : Int)) * (2 * (8 - (i : Int)) + 1))) = sinC i := by
  intro i hi
  match i, hi with
  | 0, _ => decide +kernel
  | 1, _ => decide +kernel
  | 2, _ => decide +kernel
  | 3, _ => decide +kernel
  | 4, _ => decide +kernel
  | 5, _ => decide +kernel
  | 6, _ => decide +kernel
  | 7, _ => decide +kernel

end Go.Proofs.Ytilaempppmhohaa
