/-
  Contracts: SumNumbers, both sides.
-/
import Derived.Test.YtilaempppmhohaaE2
namespace Go.Proofs.Ytilaempppmhohaa
open Go.RowKit Fl
set_option linter.unusedVariables false

theorem v32z : val .f32 0 = some 0 := (nn_iff .f32 0).2 (by decide)

def sumV (xs : List Nat) : Nat → Option Nat
  | 0 => some 0
  | i + 1 => bin .add .f32 (sumV xs i) (val .f32 (xs.getD i 0))

theorem spec_l01Few (A : Option Addr) (cap n : Nat) (hle : n ≤ 1048576) (w : World) : Calls Try.prog 15 #[.slice A n cap] w fun e w' => e = .returned (.bool (decide (n ≤ 256))) ∧ w' = w := by
  by_cases h : n ≤ 256
  · rw [decide_eq_true h]
    have b1 : (n : Int) ≤ 256 := by omega
    go_enter Try.func15, Try.ntmps15
    go_wp2_with fail
    go_ret
    exact ⟨rfl, rfl⟩
  · rw [decide_eq_false h]
    have b1 : ¬ (n : Int) ≤ 256 := by omega
    go_enter Try.func15, Try.ntmps15
    go_wp2_with fail
    go_ret
    exact ⟨rfl, rfl⟩

end Go.Proofs.Ytilaempppmhohaa
