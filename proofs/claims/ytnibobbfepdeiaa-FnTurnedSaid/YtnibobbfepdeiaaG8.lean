/-
  Sizes: a finite number above nought, both sides.
-/
import Derived.Test.YtnibobbfepdeiaaFw
import Derived.Lib.Hide
namespace Go.Proofs.Ytnibobbfepdeiaa.G8
open Fl Go.RowKit
set_option linter.unusedVariables false

/-- x - x == 0. -/
def isFin8 (X : Option Nat) : Bool := cmp .f32 (bin .sub .f32 X X) (some 0) == some .eq
/-- A finite number above nought. -/
def sizeB (x : Nat) : Bool := isFin8 (val .f32 x) && (FloatKind.f32.format.order x 0 == some .gt)

theorem spec_l01Finite (x : Nat) (w : World) : Calls Try.prog 90 #[.float .f32 x] w fun e w' => e = .returned (.bool (isFin8 (val .f32 x))) ∧ ∃ n, w' = w.drewN n := by
  go_enter Try.func90, Try.ntmps90
  go_wp2_with (refine wpList_fbin rfl _ _ _ _ _ rfl (by decide) _ _ _ rfl rfl ?_; intro r n hr)
  go_ret
  refine ⟨?_, n, rfl⟩
  show Ending.returned (.bool (FloatKind.f32.format.order r 0 == some .eq)) = _
  rw [order_cmp, hr.val]; rfl

theorem spec_l02Size (x : Nat) (w : World) : Calls Try.prog 55 #[.float .f32 x] w fun e w' => e = .returned (.bool (sizeB x)) ∧ ∃ n, w' = w.drewN n := by
  unfold sizeB
  cases h1 : isFin8 (val .f32 x) <;> cases h2 : (FloatKind.f32.format.order x 0 == some .gt)
  all_goals
    have H1 := Lib.hid h1
    clear h1
    go_enter Try.func55, Try.ntmps55
    go_wp2_with (first | (go_at_call 90; refine (spec_l01Finite _ _).mono ?_; rw [H1.out]; rintro e w' ⟨rfl, n, rfl⟩) | fail)
    go_ret
    exact ⟨rfl, n, rfl⟩
end Go.Proofs.Ytnibobbfepdeiaa.G8
