-- written by a program of this session out of the translation (wip/gen/patch_print.py)
import Derived.Test.YtnibobbfepdeiaaPMeshx0
import Derived.Test.YtnibobbfepdeiaaG7
namespace Go.Proofs.Ytnibobbfepdeiaa.PMesh
open Go.RowKit Go.Proofs.YtnibobbfepdeiaaW.PrintWords Go.Proofs.YtnibobbfepdeiaaW.PrintLast Go.Proofs.YtnibobbfepdeiaaW.PrintMore
attribute [local go_sem] max2_int min2_int max_two min_two max_three min_three max_four min_four   -- for this text's walks alone
set_option linter.unusedVariables false
set_option linter.unusedSimpArgs false

/-! ### impl_SameMesh: function 32 -/
-- IMPORT Derived.Test.YtnibobbfepdeiaaG7
def impl_SameMesh.f (l0_0 : List (S59)) (l0_1 : List (List Int)) (l1_0 : List (S59)) (l1_1 : List (List Int)) : Option (Bool) := if l0_0.length ≤ 1048576 ∧ G7.okP l0_0 = true ∧ G7.okP l1_0 = true ∧ l0_1.length ≤ 1048576 ∧ G7.okT l0_1 = true then some (G7.samePB l0_0 l1_0 && decide (l0_1 = l1_1)) else none
theorem impl_SameMesh.calls (A0_0 : Option Addr) (c0_0 : Nat) (l0_0 : List (S59)) (A0_1 : Option Addr) (c0_1 : Nat) (l0_1 : List (List Int)) (A1_0 : Option Addr) (c1_0 : Nat) (l1_0 : List (S59)) (A1_1 : Option Addr) (c1_1 : Nat) (l1_1 : List (List Int)) (r : Bool) (w : World) (hr0_0 : Kd.C k59 w A0_0 l0_0.length l0_0) (hc0_0 : l0_0.length ≤ c0_0) (hr0_1 : Kd.C (Kd.slice 2 (Kd.int .i64)) w A0_1 l0_1.length l0_1) (hc0_1 : l0_1.length ≤ c0_1) (hr1_0 : Kd.C k59 w A1_0 l1_0.length l1_0) (hc1_0 : l1_0.length ≤ c1_0) (hr1_1 : Kd.C (Kd.slice 2 (Kd.int .i64)) w A1_1 l1_1.length l1_1) (hc1_1 : l1_1.length ≤ c1_1) (h : impl_SameMesh.f l0_0 l0_1 l1_0 l1_1 = some r) :
    Calls Try.prog 32 #[.agg #[.slice A0_0 l0_0.length c0_0, .slice A0_1 l0_1.length c0_1], .agg #[.slice A1_0 l1_0.length c1_0, .slice A1_1 l1_1.length c1_1]] w fun e w' => e = .returned (.bool r) ∧ Below w.heap.size w w' := by
  unfold impl_SameMesh.f at h
  split at h
  · rename_i hs
    obtain ⟨h1, h2, h3, h4, h5⟩ := hs
    cases h
    exact G7.impl_SameMesh l0_0 l1_0 l0_1 l1_1 h1 (G7.okP_iff.1 h2) (G7.okP_iff.1 h3) h4 (G7.okT_iff.1 h5) A0_0 A0_1 A1_0 A1_1 c0_0 c0_1 c1_0 c1_1 w hr0_0 hr0_1 hr1_0 hr1_1
  · cases h

end Go.Proofs.Ytnibobbfepdeiaa.PMesh
