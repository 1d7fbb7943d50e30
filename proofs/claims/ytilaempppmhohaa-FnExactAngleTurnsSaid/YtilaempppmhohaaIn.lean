/-
  Contracts: a number within bounds, on both sides.
-/
import Derived.Test.YtilaempppmhohaaProg
import Derived.WalkKit
import Derived.Deep.Draws
namespace Go.Proofs.Ytilaempppmhohaa
open Go.RowKit
set_option linter.unusedVariables false

def inR (n lo hi : Int) : Bool := decide (lo ≤ n ∧ n ≤ hi)
theorem inR_true {n lo hi : Int} (h0 : lo ≤ n) (h1 : n ≤ hi) : inR n lo hi = true := decide_eq_true ⟨h0, h1⟩
theorem inR_false {n lo hi : Int} (h : n < lo ∨ hi < n) : inR n lo hi = false := decide_eq_false (by omega)

end Go.Proofs.Ytilaempppmhohaa
