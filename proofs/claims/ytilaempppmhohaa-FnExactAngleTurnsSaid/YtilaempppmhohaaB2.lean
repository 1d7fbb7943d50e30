/-
  Contracts: the sine of a number of turns, the program's side.
-/
import Derived.Test.YtilaempppmhohaaA4
import Derived.Test.YtilaempppmhohaaA1
import Derived.Test.YtilaempppmhohaaSine
import Derived.Outline
namespace Go.Proofs.Ytilaempppmhohaa
open Fl Ieee Go.RowKit
set_option linter.unusedVariables false

theorem val_ofInt (n : Int) : val .f64 (floatOfInt .f64 n) = some (floatOfInt .f64 n) := write_val .f64 (d := .number (decide (n < 0)) n.natAbs 0) rfl

theorem FR_neg64 {x : Nat} {X : Option Nat} (h : FR .f64 x X) : FR .f64 (x ^^^ 9223372036854775808) (negV64 X) := by
  have hx : x < 18446744073709551616 := h.lt
  have hb := neg_bits64 x hx
  refine ⟨hb.1, ?_⟩
  rw [← h.val, val64, val64, hb.2]
  split <;> rfl

end Go.Proofs.Ytilaempppmhohaa
