-- written by a program of this session out of the translation (wip/gen/patch_print.py)
import Derived.Test.YtnibobbfepdeiaaPMeshx0
import Derived.Test.YtnibobbfepdeiaaG8
namespace Go.Proofs.Ytnibobbfepdeiaa.PMesh
open Go.RowKit Go.Proofs.YtnibobbfepdeiaaW.PrintWords Go.Proofs.YtnibobbfepdeiaaW.PrintLast Go.Proofs.YtnibobbfepdeiaaW.PrintMore
attribute [local go_sem] max2_int min2_int max_two min_two max_three min_three max_four min_four   -- for this text's walks alone
set_option linter.unusedVariables false
set_option linter.unusedSimpArgs false

/-! ### spec_l02Size: function 55 -/
-- IMPORT Derived.Test.YtnibobbfepdeiaaG8
def spec_l02Size.f (a0 : Nat) : Option (Bool) := some (G8.sizeB a0)
theorem spec_l02Size.calls (a0 : Nat) (r : Bool) (w : World) (h : spec_l02Size.f a0 = some r) :
    Calls Try.prog 55 #[.float .f32 a0] w fun e w' => e = .returned (.bool r) ∧ Drawn0 w w' := by
  unfold spec_l02Size.f at h
  cases h
  refine (G8.spec_l02Size _ w).mono ?_
  rintro e w' ⟨rfl, n, rfl⟩
  exact ⟨rfl, ⟨n, rfl⟩⟩

end Go.Proofs.Ytnibobbfepdeiaa.PMesh
