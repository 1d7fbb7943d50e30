/-
  Walks: IsFinite on both sides, the law of it; the law of the constants.
-/
import Derived.Test.YtilaempppmhohaaStep
namespace Go.Proofs.Ytilaempppmhohaa
open Fl Go.RowKit
set_option linter.unusedVariables false

/-- x - x == 0. -/
def isFin (X : Option Nat) : Bool := cmp .f32 (bin .sub .f32 X X) (some 0) == some .eq

theorem impl_IsFinite (x : Nat) (w : World) : Calls Try.prog 20 #[.float .f32 x] w fun e w' => e = .returned (.bool (isFin (val .f32 x))) ∧ ∃ n, w' = w.drewN n := by
  go_enter Try.func20, Try.ntmps20
  go_wp2_with (refine wpList_fbin rfl _ _ _ _ _ rfl (by decide) _ _ _ rfl rfl ?_; intro r n hr)
  go_ret
  refine ⟨?_, n, rfl⟩
  show Ending.returned (.bool (FloatKind.f32.format.order r 0 == some .eq)) = _
  rw [order_cmp, hr.val]; rfl

theorem below_drewN (w : World) (n : Nat) : Below w.heap.size w (w.drewN n) := ⟨rfl, rfl, rfl, Nat.le_refl _, fun _ _ => rfl⟩

end Go.Proofs.Ytilaempppmhohaa
