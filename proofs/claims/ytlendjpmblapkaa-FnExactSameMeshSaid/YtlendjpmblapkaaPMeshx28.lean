-- written by a program of this session out of the translation (wip/gen/patch_print.py)
import Derived.Test.YtlendjpmblapkaaPMeshx0
namespace Go.Proofs.Ytlendjpmblapkaa.PMesh
open Go.RowKit Go.Proofs.YtlendjpmblapkaaW.PrintWords Go.Proofs.YtlendjpmblapkaaW.PrintLast Go.Proofs.YtlendjpmblapkaaW.PrintMore
attribute [local go_sem] max2_int min2_int max_two min_two max_three min_three max_four min_four   -- for this text's walks alone
set_option linter.unusedVariables false
set_option linter.unusedSimpArgs false

-- NOT PRINTED: function 79 (math_Float32bits)

-- NOT PRINTED: function 73 (spec_l01Bits)

-- NOT PRINTED: function 59 (spec_l01Same)

/-! ### spec_l01VSame: function 38 -/
def spec_l01VSame.f (a0_0 : Nat) (a0_1 : Nat) (a0_2 : Nat) (a1_0 : Nat) (a1_1 : Nat) (a1_2 : Nat) : Option (Bool) := if a0_0 < 4294967296 ∧ a0_1 < 4294967296 ∧ a0_2 < 4294967296 ∧ a1_0 < 4294967296 ∧ a1_1 < 4294967296 ∧ a1_2 < 4294967296 then some (sameVecV a0_0 a0_1 a0_2 a1_0 a1_1 a1_2) else none
theorem spec_l01VSame.calls (a0_0 : Nat) (a0_1 : Nat) (a0_2 : Nat) (a1_0 : Nat) (a1_1 : Nat) (a1_2 : Nat) (r : Bool) (w : World) (h : spec_l01VSame.f a0_0 a0_1 a0_2 a1_0 a1_1 a1_2 = some r) :
    Calls Try.prog 38 #[.agg #[.float .f32 a0_0, .float .f32 a0_1, .float .f32 a0_2], .agg #[.float .f32 a1_0, .float .f32 a1_1, .float .f32 a1_2]] w fun e w' => e = .returned (.bool r) ∧ Below w.heap.size w w' := by
  unfold spec_l01VSame.f at h
  split at h
  · rename_i hs
    cases h
    exact Go.Proofs.Ytlendjpmblapkaa.spec_l01VSame _ _ _ _ _ _ hs.1 hs.2.1 hs.2.2.1 hs.2.2.2.1 hs.2.2.2.2.1 hs.2.2.2.2.2 w
  · cases h

end Go.Proofs.Ytlendjpmblapkaa.PMesh
