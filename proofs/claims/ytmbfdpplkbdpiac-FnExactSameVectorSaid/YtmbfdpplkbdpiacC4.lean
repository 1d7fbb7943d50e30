/-
  How the laws of two vectors keep their arguments' variables; the law InnerOf. (Printed by gen/gen_veclaw.py)
-/
import Derived.Test.YtmbfdpplkbdpiacC3
namespace Go.Proofs.Ytmbfdpplkbdpiac
open Fl Go.RowKit
set_option linter.unusedVariables false

theorem keep2 {w0 w1 w2 : World} {a b c x y z : Nat} (hb : Below w1.heap.size w1 w2) (h : w1.cell? ⟨w0.heap.size, 0, none⟩ = some (.float .f32 a) ∧ w1.cell? ⟨w0.heap.size, 1, none⟩ = some (.float .f32 b) ∧ w1.cell? ⟨w0.heap.size, 2, none⟩ = some (.float .f32 c) ∧ w1.cell? ⟨w0.heap.size + 1, 0, none⟩ = some (.float .f32 x) ∧ w1.cell? ⟨w0.heap.size + 1, 1, none⟩ = some (.float .f32 y) ∧ w1.cell? ⟨w0.heap.size + 1, 2, none⟩ = some (.float .f32 z) ∧ w0.heap.size + 2 ≤ w1.heap.size ∧ Below w0.heap.size w0 w1) : w2.cell? ⟨w0.heap.size, 0, none⟩ = some (.float .f32 a) ∧ w2.cell? ⟨w0.heap.size, 1, none⟩ = some (.float .f32 b) ∧ w2.cell? ⟨w0.heap.size, 2, none⟩ = some (.float .f32 c) ∧ w2.cell? ⟨w0.heap.size + 1, 0, none⟩ = some (.float .f32 x) ∧ w2.cell? ⟨w0.heap.size + 1, 1, none⟩ = some (.float .f32 y) ∧ w2.cell? ⟨w0.heap.size + 1, 2, none⟩ = some (.float .f32 z) ∧ w0.heap.size + 2 ≤ w2.heap.size ∧ Below w0.heap.size w0 w2 := by
  obtain ⟨h0, h1, h2, h3, h4, h5, h6, h7⟩ := h
  refine ⟨(hb.cell ?_).trans h0, (hb.cell ?_).trans h1, (hb.cell ?_).trans h2, (hb.cell ?_).trans h3, (hb.cell ?_).trans h4, (hb.cell ?_).trans h5, ?_, h7.trans (hb.mono ?_)⟩
  all_goals first | (show w0.heap.size < _; omega) | (show w0.heap.size + 1 < _; omega) | (have := hb.size; omega) | omega

theorem keep2d {w0 w1 : World} {a b c x y z : Nat} (h : w1.cell? ⟨w0.heap.size, 0, none⟩ = some (.float .f32 a) ∧ w1.cell? ⟨w0.heap.size, 1, none⟩ = some (.float .f32 b) ∧ w1.cell? ⟨w0.heap.size, 2, none⟩ = some (.float .f32 c) ∧ w1.cell? ⟨w0.heap.size + 1, 0, none⟩ = some (.float .f32 x) ∧ w1.cell? ⟨w0.heap.size + 1, 1, none⟩ = some (.float .f32 y) ∧ w1.cell? ⟨w0.heap.size + 1, 2, none⟩ = some (.float .f32 z) ∧ w0.heap.size + 2 ≤ w1.heap.size ∧ Below w0.heap.size w0 w1) : w1.drew.cell? ⟨w0.heap.size, 0, none⟩ = some (.float .f32 a) ∧ w1.drew.cell? ⟨w0.heap.size, 1, none⟩ = some (.float .f32 b) ∧ w1.drew.cell? ⟨w0.heap.size, 2, none⟩ = some (.float .f32 c) ∧ w1.drew.cell? ⟨w0.heap.size + 1, 0, none⟩ = some (.float .f32 x) ∧ w1.drew.cell? ⟨w0.heap.size + 1, 1, none⟩ = some (.float .f32 y) ∧ w1.drew.cell? ⟨w0.heap.size + 1, 2, none⟩ = some (.float .f32 z) ∧ w0.heap.size + 2 ≤ w1.drew.heap.size ∧ Below w0.heap.size w0 w1.drew := by
  obtain ⟨h0, h1, h2, h3, h4, h5, h6, h7⟩ := h
  exact ⟨h0, h1, h2, h3, h4, h5, h6, Below.drew h7⟩

theorem fnExactInnerOf_walk0 (w : World) (a b c x y z : Nat) :
    Calls Try.prog 3 #[.agg #[.float .f32 a, .float .f32 b, .float .f32 c], .agg #[.float .f32 x, .float .f32 y, .float .f32 z]] w fun e w' => e = .returned (.bool true) ∧ Below w.heap.size w w' := by
  go_enter Try.func3, Try.ntmps3
  go_wp2_with fail
  go_region_held3 (fun w' => w'.cell? ⟨w.heap.size, 0, none⟩ = some (.float .f32 a) ∧ w'.cell? ⟨w.heap.size, 1, none⟩ = some (.float .f32 b) ∧ w'.cell? ⟨w.heap.size, 2, none⟩ = some (.float .f32 c) ∧ w'.cell? ⟨w.heap.size + 1, 0, none⟩ = some (.float .f32 x) ∧ w'.cell? ⟨w.heap.size + 1, 1, none⟩ = some (.float .f32 y) ∧ w'.cell? ⟨w.heap.size + 1, 2, none⟩ = some (.float .f32 z) ∧ w.heap.size + 2 ≤ w'.heap.size ∧ Below w.heap.size w w') (first | (refine ⟨by go_keep, by go_keep, by go_keep, by go_keep, by go_keep, by go_keep, by simp, ?_⟩; (repeat (first | exact Below.refl _ _ | assumption | (refine Below.drewN ?_ _) | (refine Below.setCell ?_ (by first | (simp; done) | (simp; omega)) _) | (refine Below.drew ?_) | (refine Below.alloc ?_ (by first | (simp; done) | (simp; omega)) _))); done) | exact keep2 (by assumption) (by assumption))
    (first | (go_at_call 10; refine (laws_toVector _ _ _ _).mono ?_; rintro e w' ⟨rfl, hb⟩) | (go_at_call 9; refine (spec_InnerOf _ _ _ _ _ _ _).mono ?_; rintro e w' ⟨r1, rfl, hr1, hb⟩))
  go_wp2_with fail
  go_region_held3 (fun w' => w'.cell? ⟨w.heap.size, 0, none⟩ = some (.float .f32 a) ∧ w'.cell? ⟨w.heap.size, 1, none⟩ = some (.float .f32 b) ∧ w'.cell? ⟨w.heap.size, 2, none⟩ = some (.float .f32 c) ∧ w'.cell? ⟨w.heap.size + 1, 0, none⟩ = some (.float .f32 x) ∧ w'.cell? ⟨w.heap.size + 1, 1, none⟩ = some (.float .f32 y) ∧ w'.cell? ⟨w.heap.size + 1, 2, none⟩ = some (.float .f32 z) ∧ w.heap.size + 2 ≤ w'.heap.size ∧ Below w.heap.size w w') (first | exact keep2d (by assumption) | exact keep2 (by assumption) (by assumption))
    (first | (go_at_call 10; refine (laws_toVector _ _ _ _).mono ?_; rintro e w' ⟨rfl, hb⟩) | (go_at_call 11; refine (impl_InnerOf _ _ _ _ _ _ _).mono ?_; rintro e w' ⟨r2, rfl, hr2, hb⟩))
  rename_i hfin
  go_wp2_with (first | (refine wpList_widen (o := ⟨some 18, _, _, _, _, _⟩) rfl _ _ _ rfl _ rfl (by kernel_rfl) (by kernel_rfl) ?_; intro q2 nq2 hq2; rw [hr2.val] at hq2) | (refine wpList_widen (o := ⟨some 20, _, _, _, _, _⟩) rfl _ _ _ rfl _ rfl (by kernel_rfl) (by kernel_rfl) ?_; intro q1 nq1 hq1; rw [hr1.val] at hq1) | (go_at_call 12; refine (sameFloat_FR _ _ _ (by assumption) (by assumption) _).mono ?_; rintro e w' ⟨rfl, n, rfl⟩) | fail)
  go_ret
  refine ⟨rfl, ?_⟩
  exact Below.drewN hfin.2.2.2.2.2.2.2 _

theorem fnExactInnerOf_walk (w : World) (a0x a0y a0z : Nat) (w0x : a0x < 2 ^ 32) (w0y : a0y < 2 ^ 32) (w0z : a0z < 2 ^ 32) (a1x a1y a1z : Nat) (w1x : a1x < 2 ^ 32) (w1y : a1y < 2 ^ 32) (w1z : a1z < 2 ^ 32) :
    Calls Try.prog 3 #[.agg #[.float .f32 a0x, .float .f32 a0y, .float .f32 a0z], .agg #[.float .f32 a1x, .float .f32 a1y, .float .f32 a1z]] w fun e w' => e = .returned (.bool true) ∧ Below w.heap.size w w' := fnExactInnerOf_walk0 w _ _ _ _ _ _
end Go.Proofs.Ytmbfdpplkbdpiac
