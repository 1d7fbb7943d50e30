-- written by a program of this session out of the translation (wip/gen/patch_print.py)
import Derived.Test.YtlendjpmblapkabPMeshx0
import Derived.Test.YtlendjpmblapkabPMeshx24
import Derived.Test.YtlendjpmblapkabG9
namespace Go.Proofs.Ytlendjpmblapkab.PMesh
open Go.RowKit Go.Proofs.YtlendjpmblapkabW.PrintWords Go.Proofs.YtlendjpmblapkabW.PrintLast Go.Proofs.YtlendjpmblapkabW.PrintMore
attribute [local go_sem] max2_int min2_int max_two min_two max_three min_three max_four min_four   -- for this text's walks alone
set_option linter.unusedVariables false
set_option linter.unusedSimpArgs false

/-! ### spec_l02Own: function 30 -/
-- IMPORT Derived.Test.YtlendjpmblapkabG9
def spec_l02Own.f (s0_0 : List (S40)) (s0_1 : List (List Int)) : Option ((List (S40)) × (List (List Int))) := if s0_0.length ≤ 1048576 ∧ s0_1.length ≤ 1048576 ∧ G9.okR s0_1 = true then some (s0_0, s0_1) else none
theorem spec_l02Own.calls (g : Nat) (s0_0 : List (S40)) (s0_1 : List (List Int)) (r1 : List (S40)) (r2 : List (List Int)) (w0 w : World) (hI : IsS29 w0 w g s0_0 s0_1) (hB : Below w0.heap.size w0 w) (h : spec_l02Own.f s0_0 s0_1 = some (r1, r2)) :
    Calls Try.prog 30 #[.pointer (some ⟨g, 0, none⟩)] w fun e w' => ∃ v0_ v1_ : Value, e = .returned (.agg #[v0_, v1_]) ∧ Kd.R k40 40 w' w.heap.size (fun _ => True) v0_ r1 ∧ Kd.S (Kd.slice 2 (Kd.int .i64)) 56 w' w.heap.size (fun _ => True) v1_ r2 ∧ IsS29 w0 w' g s0_0 s0_1 ∧ Below w0.heap.size w0 w' ∧ KeepBut w w' g none := by
  unfold spec_l02Own.f at h
  split at h
  · rename_i hs
    obtain ⟨h1, h2, h3⟩ := hs
    cases h
    refine (G9.spec_l02Own g s0_0 s0_1 w0 w hI hB h1 h2 (G9.okR_iff.1 h3)).mono ?_
    rintro e w' ⟨v0, v1, rfl, hR, hS, hb⟩
    exact ⟨v0, v1, rfl, hR, hS, hI.below hb, below_step hB hb, KeepBut.of_below hb _ _⟩
  · cases h

end Go.Proofs.Ytlendjpmblapkab.PMesh
