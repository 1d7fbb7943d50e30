/-
  The functions of package math that the model knows by a table: what a call of each does.
-/
import Derived.Test.YtilaempppmhohaaStep
import Derived.Laws.Externs
import Derived.KernelRfl
namespace Go.Proofs.Ytilaempppmhohaa
open Fl Go.RowKit
set_option linter.unusedVariables false

@[go_sem] theorem ext_f64bits (b : Nat) (w : World) : (callFunc 27 #[.float .f64 b]).run Try.prog w = .ok (.value (.int .u64 b)) w := by rw [run_callFunc_extern Try.func27 (by kernel_rfl) (by kernel_rfl) (by kernel_rfl) (e := Extern.MathFloatBits.float64bits) (by kernel_rfl)]; rfl

@[go_sem] theorem ext_f64from (n : Int) (w : World) : (callFunc 26 #[.int .u64 n]).run Try.prog w = .ok (.value (.float .f64 n.toNat)) w := by rw [run_callFunc_extern Try.func26 (by kernel_rfl) (by kernel_rfl) (by kernel_rfl) (e := Extern.MathFloatBits.float64frombits) (by kernel_rfl)]; rfl

@[go_sem] theorem ext_sqrt (b : Nat) (w : World) : (callFunc 28 #[.float .f64 b]).run Try.prog w = ((Extern.MathSqrt.sqrt #[.float .f64 b]).run Try.prog w).andThen fun v w' => .ok (.value v) w' := by rw [run_callFunc_extern Try.func28 (by kernel_rfl) (by kernel_rfl) (by kernel_rfl) (e := Extern.MathSqrt.sqrt) (by kernel_rfl)]

end Go.Proofs.Ytilaempppmhohaa
