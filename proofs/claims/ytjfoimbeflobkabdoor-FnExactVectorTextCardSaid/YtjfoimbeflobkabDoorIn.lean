/-
  Contracts: a number within bounds, on both sides.
-/
import Derived.Test.YtjfoimbeflobkabDoorProg
import Derived.WalkKit
import Derived.Deep.Draws
namespace Go.Proofs.YtjfoimbeflobkabDoor
open Go.RowKit
set_option linter.unusedVariables false

def inR (n lo hi : Int) : Bool := decide (lo ≤ n ∧ n ≤ hi)
theorem inR_true {n lo hi : Int} (h0 : lo ≤ n) (h1 : n ≤ hi) : inR n lo hi = true := decide_eq_true ⟨h0, h1⟩
theorem inR_false {n lo hi : Int} (h : n < lo ∨ hi < n) : inR n lo hi = false := decide_eq_false (by omega)

theorem spec_l00In (n lo hi : Int) (w : World) : Calls Tryd.prog 52 #[.int .i64 n, .int .i64 lo, .int .i64 hi] w fun e w' => e = .returned (.bool (inR n lo hi)) ∧ w' = w := by
  by_cases h0 : lo ≤ n
  · by_cases h1 : n ≤ hi
    · go_enter Tryd.func52, Tryd.ntmps52
      go_wp2
      go_ret
      exact ⟨by rw [inR_true h0 h1]; rfl, rfl⟩
    · have hd : decide (n ≤ hi) = false := decide_eq_false h1
      go_enter Tryd.func52, Tryd.ntmps52
      go_wp2
      go_ret
      exact ⟨by rw [inR_false (by omega)]; rfl, rfl⟩
  · have hd : decide (lo ≤ n) = false := decide_eq_false h0
    go_enter Tryd.func52, Tryd.ntmps52
    go_wp2
    go_ret
    exact ⟨by rw [inR_false (by omega)]; rfl, rfl⟩

theorem impl_within (n lo hi : Int) (w : World) : Calls Tryd.prog 69 #[.int .i64 n, .int .i64 lo, .int .i64 hi] w fun e w' => e = .returned (.bool (inR n lo hi)) ∧ w' = w := by
  by_cases h0 : lo ≤ n
  · by_cases h1 : n ≤ hi
    · go_enter Tryd.func69, Tryd.ntmps69
      go_wp2
      go_ret
      exact ⟨by rw [inR_true h0 h1]; rfl, rfl⟩
    · have hd : decide (n ≤ hi) = false := decide_eq_false h1
      go_enter Tryd.func69, Tryd.ntmps69
      go_wp2
      go_ret
      exact ⟨by rw [inR_false (by omega)]; rfl, rfl⟩
  · have hd : decide (lo ≤ n) = false := decide_eq_false h0
    go_enter Tryd.func69, Tryd.ntmps69
    go_wp2
    go_ret
    exact ⟨by rw [inR_false (by omega)]; rfl, rfl⟩

end Go.Proofs.YtjfoimbeflobkabDoor
