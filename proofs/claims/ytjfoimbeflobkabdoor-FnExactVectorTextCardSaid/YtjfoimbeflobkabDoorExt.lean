/-
  The functions of package math that the model knows by a table: what a call of each does.
-/
import Derived.Test.YtjfoimbeflobkabDoorStep
import Derived.Laws.Externs
import Derived.KernelRfl
namespace Go.Proofs.YtjfoimbeflobkabDoor
open Fl Go.RowKit
set_option linter.unusedVariables false

@[go_sem] theorem ext_f32bits (b : Nat) (w : World) : (callFunc 58 #[.float .f32 b]).run Tryd.prog w = .ok (.value (.int .u32 b)) w := by rw [run_callFunc_extern Tryd.func58 (by kernel_rfl) (by kernel_rfl) (by kernel_rfl) (e := Extern.MathFloatBits.float32bits) (by kernel_rfl)]; rfl

@[go_sem] theorem ext_f32from (n : Int) (w : World) : (callFunc 51 #[.int .u32 n]).run Tryd.prog w = .ok (.value (.float .f32 n.toNat)) w := by rw [run_callFunc_extern Tryd.func51 (by kernel_rfl) (by kernel_rfl) (by kernel_rfl) (e := Extern.MathFloatBits.float32frombits) (by kernel_rfl)]; rfl

end Go.Proofs.YtjfoimbeflobkabDoor
