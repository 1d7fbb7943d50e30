-- written by a program of this session out of the translation (wip/gen/patch_print.py)
import Derived.Test.YtepilofcionekaaPMeshx0
namespace Go.Proofs.Ytepilofcionekaa.PMesh
open Go.RowKit Go.Proofs.YtepilofcionekaaW.PrintWords Go.Proofs.YtepilofcionekaaW.PrintLast Go.Proofs.YtepilofcionekaaW.PrintMore
attribute [local go_sem] max2_int min2_int max_two min_two max_three min_three max_four min_four   -- for this text's walks alone
set_option linter.unusedVariables false
set_option linter.unusedSimpArgs false

/-! ### laws_eqVector: function 100 -/
def laws_eqVector.f (a0_0 : Nat) (a0_1 : Nat) (a0_2 : Nat) (a1_0 : Nat) (a1_1 : Nat) (a1_2 : Nat) : Option (Bool) := if simF a0_0 a1_0 = true ∧ simF a0_1 a1_1 = true ∧ simF a0_2 a1_2 = true then some true else none
theorem laws_eqVector.calls (a0_0 : Nat) (a0_1 : Nat) (a0_2 : Nat) (a1_0 : Nat) (a1_1 : Nat) (a1_2 : Nat) (r : Bool) (w : World) (h : laws_eqVector.f a0_0 a0_1 a0_2 a1_0 a1_1 a1_2 = some r) :
    Calls Try.prog 100 #[.agg #[.float .f32 a0_0, .float .f32 a0_1, .float .f32 a0_2], .agg #[.float .f32 a1_0, .float .f32 a1_1, .float .f32 a1_2]] w fun e w' => e = .returned (.bool r) ∧ Below w.heap.size w w' := by
  unfold laws_eqVector.f at h
  split at h
  · rename_i hs
    cases h
    exact laws_eqVector_same _ _ _ _ _ _ hs.1 hs.2.1 hs.2.2 w
  · cases h

end Go.Proofs.Ytepilofcionekaa.PMesh
