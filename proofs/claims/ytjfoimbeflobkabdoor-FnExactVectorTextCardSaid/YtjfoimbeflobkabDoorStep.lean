/-
  Steps of the walk at operations on floats: the result is some bits of the value that the operands' values give; some draws.
-/
import Derived.Test.YtjfoimbeflobkabDoorProg
import Derived.Test.YtjfoimbeflobkabDoorNum
import Derived.WalkKit
import Derived.Laws.Cover2
namespace Go.Proofs.YtjfoimbeflobkabDoor
open Fl Go.RowKit
set_option linter.unusedVariables false

@[go_sem] theorem unary_neg_f32 (b : Nat) : Op.unary .neg (.float .f32 b) = pure (.float .f32 (b ^^^ 2147483648)) := rfl
@[go_sem] theorem unary_neg_f64 (b : Nat) : Op.unary .neg (.float .f64 b) = pure (.float .f64 (b ^^^ 9223372036854775808)) := rfl

section
variable {P : Program} {ops : Array Oper} {Q : Exit → Act → World → Prop} {a : Act} {w : World} {rest : List Oper} {o : Oper}

theorem run_float_guard (op : BinOp) (t : TypeId) (x y : Operand) (k : FloatKind) (bx bz : Nat) (w : World) :
    (eqGuard op t x y (.float k bx) (.float k bz)).run P w = .ok () w := by
  cases op <;> rfl

/-- An operation that is wanted and whose run is known. -/
theorem wpList_ran (hw : Region.wanted o (yielded ops a.tmps) = true) {v : Value} {w' : World} (e : (execOp a.eval o).run P w = .ok (.value v) w')
    (h : wpList P ops Q rest (a.put o.dst v) w') : wpList P ops Q (o :: rest) a w := by
  unfold wpList
  rw [if_pos hw]
  left
  unfold Oper.wp
  rw [e]
  exact h

/-- '+', '-', '*', '/' of floats. -/
theorem wpList_fbin (hw : Region.wanted o (yielded ops a.tmps) = true) (op : BinOp) (t t' : TypeId) (x y : Operand) (ho : o.op = .binOp op t x y t')
    (hop : op = .add ∨ op = .sub ∨ op = .mul ∨ op = .quo) (k : FloatKind) (bx bz : Nat) (hx : a.eval x = .float k bx) (hy : a.eval y = .float k bz)
    (h : ∀ r n, FR k r (bin op k (val k bx) (val k bz)) → wpList P ops Q rest (a.put o.dst (.float k r)) (w.drewN n)) : wpList P ops Q (o :: rest) a w := by
  obtain ⟨r, n, hr, hf⟩ := run_arith (P := P) op hop t k bx bz w
  refine wpList_ran hw (v := .float k r) (w' := w.drewN n) ?_ (h r n hf)
  unfold execOp
  rw [ho]
  simp only [hx, hy]
  have hq := run_float_guard (P := P) op t x y k bx bz w
  simp [hq, hr]

/-- float64(x) of a float32. -/
theorem wpList_widen (hw : Region.wanted o (yielded ops a.tmps) = true) (src dst : TypeId) (x : Operand) (ho : o.op = .convert src dst x)
    (bx : Nat) (hx : a.eval x = .float .f32 bx) (hs : (P.underlying src).isSome = true) (hd : P.underlying dst = some (.float .f64))
    (h : ∀ r n, FR .f64 r (wid (val .f32 bx)) → wpList P ops Q rest (a.put o.dst (.float .f64 r)) (w.drewN n)) : wpList P ops Q (o :: rest) a w := by
  obtain ⟨r, n, hr, hf⟩ := run_widen (P := P) src dst bx hs hd w
  refine wpList_ran hw (v := .float .f64 r) (w' := w.drewN n) ?_ (h r n hf)
  unfold execOp
  rw [ho]
  simp only [hx]
  simp [hr]

/-- float32(x) of a float64 that is not too great. -/
theorem wpList_narrow (hw : Region.wanted o (yielded ops a.tmps) = true) (src dst : TypeId) (x : Operand) (ho : o.op = .convert src dst x)
    (bx : Nat) (hx : a.eval x = .float .f64 bx) (hs : (P.underlying src).isSome = true) (hd : P.underlying dst = some (.float .f32)) (hok : NarOk (val .f64 bx))
    (h : ∀ r n, FR .f32 r (nar (val .f64 bx)) → wpList P ops Q rest (a.put o.dst (.float .f32 r)) (w.drewN n)) : wpList P ops Q (o :: rest) a w := by
  obtain ⟨r, n, hr, hf⟩ := run_narrow (P := P) src dst bx hs hd w hok
  refine wpList_ran hw (v := .float .f32 r) (w' := w.drewN n) ?_ (h r n hf)
  unfold execOp
  rw [ho]
  simp only [hx]
  simp [hr]
end
end Go.Proofs.YtjfoimbeflobkabDoor
