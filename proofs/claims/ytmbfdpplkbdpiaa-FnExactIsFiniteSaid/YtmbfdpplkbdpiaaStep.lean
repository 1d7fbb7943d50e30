/-
  Steps of the walk at operations on floats: the result is some bits of the value that the operands' values give; some draws.
-/
import Derived.Test.YtmbfdpplkbdpiaaProg
import Derived.Test.YtmbfdpplkbdpiaaFl
import Derived.WalkKit
import Derived.Laws.Cover2
namespace Go.Proofs.Ytmbfdpplkbdpiaa
open Fl Go.RowKit

section
variable {P : Program} {ops : Array Oper} {Q : Exit → Act → World → Prop} {a : Act} {w : World} {rest : List Oper} {o : Oper}

theorem run_float_guard (op : BinOp) (t : TypeId) (x y : Operand) (k : FloatKind) (bx bz : Nat) (w : World) :
    (eqGuard op t x y (.float k bx) (.float k bz)).run P w = .ok () w := by
  cases op <;> rfl

theorem wpList_fbin (hg : o.guard = none) (op : BinOp) (t t' : TypeId) (x y : Operand) (ho : o.op = .binOp op t x y t')
    (hop : op = .add ∨ op = .sub ∨ op = .mul ∨ op = .quo) (k : FloatKind) (bx bz : Nat) (hx : a.eval x = .float k bx) (hy : a.eval y = .float k bz)
    (h : ∀ r n, FR k r (bin op k (val k bx) (val k bz)) → wpList P ops Q rest (a.put o.dst (.float k r)) (w.drewN n)) : wpList P ops Q (o :: rest) a w := by
  refine wpList_plain hg fun K hK => ?_
  obtain ⟨r, n, hr, hf⟩ := run_arith (P := P) op hop t k bx bz w
  have e : (execOp a.eval o).run P w = .ok (.value (.float k r)) (w.drewN n) := by
    unfold execOp
    rw [ho]
    simp only [hx, hy]
    have hq := run_float_guard (P := P) op t x y k bx bz w
    simp [hq, hr]
  unfold Oper.wp
  rw [e]
  exact hK _ _ (h r n hf)
end
end Go.Proofs.Ytmbfdpplkbdpiaa
