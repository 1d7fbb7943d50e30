/-
  How the laws of two vectors keep their arguments' variables; the law InnerOf. (Printed by gen/gen_veclaw.py)
-/
import Derived.Test.YtmbfdpplkbdpiadC3
namespace Go.Proofs.Ytmbfdpplkbdpiad
open Fl Go.RowKit
set_option linter.unusedVariables false

theorem keep2 {w0 w1 w2 : World} {a b c x y z : Nat} (hb : Below w1.heap.size w1 w2) (h : w1.cell? ⟨w0.heap.size, 0, none⟩ = some (.float .f32 a) ∧ w1.cell? ⟨w0.heap.size, 1, none⟩ = some (.float .f32 b) ∧ w1.cell? ⟨w0.heap.size, 2, none⟩ = some (.float .f32 c) ∧ w1.cell? ⟨w0.heap.size + 1, 0, none⟩ = some (.float .f32 x) ∧ w1.cell? ⟨w0.heap.size + 1, 1, none⟩ = some (.float .f32 y) ∧ w1.cell? ⟨w0.heap.size + 1, 2, none⟩ = some (.float .f32 z) ∧ w0.heap.size + 2 ≤ w1.heap.size ∧ Below w0.heap.size w0 w1) : w2.cell? ⟨w0.heap.size, 0, none⟩ = some (.float .f32 a) ∧ w2.cell? ⟨w0.heap.size, 1, none⟩ = some (.float .f32 b) ∧ w2.cell? ⟨w0.heap.size, 2, none⟩ = some (.float .f32 c) ∧ w2.cell? ⟨w0.heap.size + 1, 0, none⟩ = some (.float .f32 x) ∧ w2.cell? ⟨w0.heap.size + 1, 1, none⟩ = some (.float .f32 y) ∧ w2.cell? ⟨w0.heap.size + 1, 2, none⟩ = some (.float .f32 z) ∧ w0.heap.size + 2 ≤ w2.heap.size ∧ Below w0.heap.size w0 w2 := by
  obtain ⟨h0, h1, h2, h3, h4, h5, h6, h7⟩ := h
  refine ⟨(hb.cell ?_).trans h0, (hb.cell ?_).trans h1, (hb.cell ?_).trans h2, (hb.cell ?_).trans h3, (hb.cell ?_).trans h4, (hb.cell ?_).trans h5, ?_, h7.trans (hb.mono ?_)⟩
  all_goals first | (show w0.heap.size < _; omega) | (show w0.heap.size + 1 < _; omega) | (have := hb.size; omega) | omega

theorem keep2d {w0 w1 : World} {a b c x y z : Nat} (h : w1.cell? ⟨w0.heap.size, 0, none⟩ = some (.float .f32 a) ∧ w1.cell? ⟨w0.heap.size, 1, none⟩ = some (.float .f32 b) ∧ w1.cell? ⟨w0.heap.size, 2, none⟩ = some (.float .f32 c) ∧ w1.cell? ⟨w0.heap.size + 1, 0, none⟩ = some (.float .f32 x) ∧ w1.cell? ⟨w0.heap.size + 1, 1, none⟩ = some (.float .f32 y) ∧ w1.cell? ⟨w0.heap.size + 1, 2, none⟩ = some (.float .f32 z) ∧ w0.heap.size + 2 ≤ w1.heap.size ∧ Below w0.heap.size w0 w1) : w1.drew.cell? ⟨w0.heap.size, 0, none⟩ = some (.float .f32 a) ∧ w1.drew.cell? ⟨w0.heap.size, 1, none⟩ = some (.float .f32 b) ∧ w1.drew.cell? ⟨w0.heap.size, 2, none⟩ = some (.float .f32 c) ∧ w1.drew.cell? ⟨w0.heap.size + 1, 0, none⟩ = some (.float .f32 x) ∧ w1.drew.cell? ⟨w0.heap.size + 1, 1, none⟩ = some (.float .f32 y) ∧ w1.drew.cell? ⟨w0.heap.size + 1, 2, none⟩ = some (.float .f32 z) ∧ w0.heap.size + 2 ≤ w1.drew.heap.size ∧ Below w0.heap.size w0 w1.drew := by
  obtain ⟨h0, h1, h2, h3, h4, h5, h6, h7⟩ := h
  exact ⟨h0, h1, h2, h3, h4, h5, h6, Below.drew h7⟩

end Go.Proofs.Ytmbfdpplkbdpiad
