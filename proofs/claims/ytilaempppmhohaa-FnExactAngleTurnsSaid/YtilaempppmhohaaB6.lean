/-
  Contracts: the natural logarithm, both sides. (Printed by gen/gen_log.py)
-/
import Derived.Test.YtilaempppmhohaaB5
import Derived.Test.YtilaempppmhohaaLog
namespace Go.Proofs.Ytilaempppmhohaa
open Fl Ieee Go.RowKit
set_option linter.unusedVariables false

end Go.Proofs.Ytilaempppmhohaa
