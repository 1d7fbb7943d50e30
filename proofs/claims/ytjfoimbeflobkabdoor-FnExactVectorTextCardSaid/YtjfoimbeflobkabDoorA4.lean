/-
  Contracts and walks: FromBits, NextUp, NextDown, FlushNumber on both sides.
-/
import Derived.Test.YtjfoimbeflobkabDoorA2
import Derived.Test.YtjfoimbeflobkabDoorIn
import Derived.Outline
namespace Go.Proofs.YtjfoimbeflobkabDoor
open Fl Ieee Go.RowKit
set_option linter.unusedVariables false

theorem sameFloat_FR (a b : Nat) (X : Option Nat) (ha : FR .f64 a X) (hb : FR .f64 b X) (w : World) :
    Calls Tryd.prog 33 #[.float .f64 a, .float .f64 b] w fun e w' => e = .returned (.bool true) ∧ ∃ n, w' = w.drewN n :=
  sameFloat_eq a b (ha.val.trans hb.val.symm) w

end Go.Proofs.YtjfoimbeflobkabDoor
