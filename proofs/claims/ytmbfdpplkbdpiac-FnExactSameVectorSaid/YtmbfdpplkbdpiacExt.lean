/-
  The functions of package math that the model knows by a table: what a call of each does.
-/
import Derived.Test.YtmbfdpplkbdpiacStep
import Derived.Laws.Externs
import Derived.KernelRfl
namespace Go.Proofs.Ytmbfdpplkbdpiac
open Fl Go.RowKit
set_option linter.unusedVariables false

@[go_sem] theorem ext_f32bits (b : Nat) (w : World) : (callFunc 35 #[.float .f32 b]).run Try.prog w = .ok (.value (.int .u32 b)) w := by rw [run_callFunc_extern Try.func35 (by kernel_rfl) (by kernel_rfl) (by kernel_rfl) (e := Extern.MathFloatBits.float32bits) (by kernel_rfl)]; rfl

@[go_sem] theorem ext_f64bits (b : Nat) (w : World) : (callFunc 34 #[.float .f64 b]).run Try.prog w = .ok (.value (.int .u64 b)) w := by rw [run_callFunc_extern Try.func34 (by kernel_rfl) (by kernel_rfl) (by kernel_rfl) (e := Extern.MathFloatBits.float64bits) (by kernel_rfl)]; rfl

end Go.Proofs.Ytmbfdpplkbdpiac
