/-
  Contracts: the natural logarithm, both sides. (Printed by gen/gen_log.py)
-/
import Derived.Test.YtilaempppmhohaaB4
import Derived.Test.YtilaempppmhohaaLog
namespace Go.Proofs.Ytilaempppmhohaa
open Fl Ieee Go.RowKit
set_option linter.unusedVariables false

theorem vLogK (i : Nat) (h : i < 13) : val .f64 (logK i) = some (logK i) := (log_consts i h).1

theorem logK0 : logK 0 = 4627730092099895296 := by decide

end Go.Proofs.Ytilaempppmhohaa
