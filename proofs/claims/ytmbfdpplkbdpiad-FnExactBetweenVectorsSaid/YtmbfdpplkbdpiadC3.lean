/-
  Contracts: vectors: the outer functions of the reference. (Printed by gen/gen_vec.py)
-/
import Derived.Test.YtmbfdpplkbdpiadC2
namespace Go.Proofs.Ytmbfdpplkbdpiad
open Fl Go.RowKit
set_option linter.unusedVariables false

end Go.Proofs.Ytmbfdpplkbdpiad
