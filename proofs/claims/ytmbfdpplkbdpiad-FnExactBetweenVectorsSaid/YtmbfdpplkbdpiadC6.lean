/-
  How a law of two vectors knows the variable that it makes midway. (Printed by gen/gen_veclaw.py)
-/
import Derived.Test.YtmbfdpplkbdpiadC5
namespace Go.Proofs.Ytmbfdpplkbdpiad
open Fl Go.RowKit
set_option linter.unusedVariables false

theorem lo_new2 {w0 w w' : World} {o : Obj} {B : Nat} (hb : Below (w.alloc o).heap.size (w.alloc o) w') (h : w0.heap.size + 2 ≤ w.heap.size ∧ B < w.heap.size) : w0.heap.size + 2 ≤ w.heap.size ∧ B < w.heap.size := h

theorem lo_newd2 {w0 w w' : World} {o : Obj} {B : Nat} (hb : Below (w.alloc o).drew.heap.size (w.alloc o).drew w') (h : w0.heap.size + 2 ≤ w.heap.size ∧ B < w.heap.size) : w0.heap.size + 2 ≤ w.heap.size ∧ B < w.heap.size := h

theorem lo_newd {w0 w w' : World} {o : Obj} (hb : Below (w.alloc o).drew.heap.size (w.alloc o).drew w') (h : w0.heap.size + 2 ≤ w.heap.size) : w0.heap.size + 2 ≤ w.heap.size := h

theorem lo_new {w0 w w' : World} {o : Obj} (hb : Below (w.alloc o).heap.size (w.alloc o) w') (h : w0.heap.size + 2 ≤ w.heap.size) : w0.heap.size + 2 ≤ w.heap.size := h
end Go.Proofs.Ytmbfdpplkbdpiad
