-- written by a program of this session out of the translation (wip/gen/patch_print.py)
import Derived.Test.YtlendjpmblapkabPMeshx0
import Derived.Test.YtlendjpmblapkabG8
namespace Go.Proofs.Ytlendjpmblapkab.PMesh
open Go.RowKit Go.Proofs.YtlendjpmblapkabW.PrintWords Go.Proofs.YtlendjpmblapkabW.PrintLast Go.Proofs.YtlendjpmblapkabW.PrintMore
attribute [local go_sem] max2_int min2_int max_two min_two max_three min_three max_four min_four   -- for this text's walks alone
set_option linter.unusedVariables false
set_option linter.unusedSimpArgs false

-- NOT PRINTED: function 64 (spec_l01Finite)

/-! ### spec_l02Size: function 50 -/
-- IMPORT Derived.Test.YtlendjpmblapkabG8
def spec_l02Size.f (a0 : Nat) : Option (Bool) := some (G8.sizeB a0)
theorem spec_l02Size.calls (a0 : Nat) (r : Bool) (w : World) (h : spec_l02Size.f a0 = some r) :
    Calls Try.prog 50 #[.float .f32 a0] w fun e w' => e = .returned (.bool r) ∧ Drawn0 w w' := by
  unfold spec_l02Size.f at h
  cases h
  refine (G8.spec_l02Size _ w).mono ?_
  rintro e w' ⟨rfl, n, rfl⟩
  exact ⟨rfl, ⟨n, rfl⟩⟩

end Go.Proofs.Ytlendjpmblapkab.PMesh
