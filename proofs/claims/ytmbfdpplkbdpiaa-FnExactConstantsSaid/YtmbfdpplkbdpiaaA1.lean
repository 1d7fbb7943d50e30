/-
  Walks: IsFinite on both sides, the law of it; the law of the constants.
-/
import Derived.Test.YtmbfdpplkbdpiaaStep
namespace Go.Proofs.Ytmbfdpplkbdpiaa
open Fl Go.RowKit
set_option linter.unusedVariables false

/-- x - x == 0. -/
def isFin (X : Option Nat) : Bool := cmp .f32 (bin .sub .f32 X X) (some 0) == some .eq

theorem impl_IsFinite (x : Nat) (w : World) : Calls Try.prog 10 #[.float .f32 x] w fun e w' => e = .returned (.bool (isFin (val .f32 x))) ∧ ∃ n, w' = w.drewN n := by
  go_enter Try.func10, Try.ntmps10
  go_wp2_with (refine wpList_fbin rfl _ _ _ _ _ rfl (by decide) _ _ _ rfl rfl ?_; intro r n hr)
  go_ret
  refine ⟨?_, n, rfl⟩
  show Ending.returned (.bool (FloatKind.f32.format.order r 0 == some .eq)) = _
  rw [order_cmp, hr.val]; rfl

theorem spec_l01Finite (x : Nat) (w : World) : Calls Try.prog 20 #[.float .f32 x] w fun e w' => e = .returned (.bool (isFin (val .f32 x))) ∧ ∃ n, w' = w.drewN n := by
  go_enter Try.func20, Try.ntmps20
  go_wp2_with (refine wpList_fbin rfl _ _ _ _ _ rfl (by decide) _ _ _ rfl rfl ?_; intro r n hr)
  go_ret
  refine ⟨?_, n, rfl⟩
  show Ending.returned (.bool (FloatKind.f32.format.order r 0 == some .eq)) = _
  rw [order_cmp, hr.val]; rfl

theorem spec_IsFinite (x : Nat) (w : World) : Calls Try.prog 9 #[.float .f32 x] w fun e w' => e = .returned (.bool (isFin (val .f32 x))) ∧ ∃ n, w' = w.drewN n := by
  go_enter Try.func9, Try.ntmps9
  go_wp2_with (go_at_call 20; refine (spec_l01Finite _ _).mono ?_; rintro e w' ⟨rfl, n, rfl⟩)
  go_ret
  exact ⟨rfl, n, rfl⟩

theorem below_drewN (w : World) (n : Nat) : Below w.heap.size w (w.drewN n) := ⟨rfl, rfl, rfl, Nat.le_refl _, fun _ _ => rfl⟩

theorem fnExactIsFinite_walk (w : World) (a0 : Nat) (w0 : a0 < 2 ^ FloatKind.f32.format.width) :
    Calls Try.prog 4 #[.float .f32 a0] w fun e w' => e = .returned (.bool true) ∧ Below w.heap.size w w' := by
  go_enter Try.func4, Try.ntmps4
  go_wp2_with (first | (go_at_call 9; refine (spec_IsFinite _ _).mono ?_; rintro e w' ⟨rfl, n, rfl⟩) | (go_at_call 10; refine (impl_IsFinite _ _).mono ?_; rintro e w' ⟨rfl, m, rfl⟩))
  go_ret
  exact ⟨rfl, below_drewN _ _⟩

theorem fnExactConstants_walk (w : World) :
    Calls Try.prog 3 #[] w fun e w' => e = .returned (.bool true) ∧ Below w.heap.size w w' := by
  go_enter Try.func3, Try.ntmps3
  go_wp2
  go_ret
  exact ⟨rfl, Below.refl _ _⟩
end Go.Proofs.Ytmbfdpplkbdpiaa
