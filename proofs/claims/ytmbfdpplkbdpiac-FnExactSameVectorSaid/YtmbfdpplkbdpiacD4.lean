/-
  The law SameVector. (Printed by gen/gen_veclaw.py)
-/
import Derived.Test.YtmbfdpplkbdpiacD3
namespace Go.Proofs.Ytmbfdpplkbdpiac
open Fl Go.RowKit
set_option linter.unusedVariables false

theorem fnExactSameVector_walk1 (w : World) (a b c x y z : Nat) (ua : a < 4294967296) (ub : b < 4294967296) (uc : c < 4294967296) (ux : x < 4294967296) (uy : y < 4294967296) (uz : z < 4294967296) (t : Bool) (ht : Hid (sameVecV a b c x y z = t)) :
    Calls Try.prog 4 #[.agg #[.float .f32 a, .float .f32 b, .float .f32 c], .agg #[.float .f32 x, .float .f32 y, .float .f32 z]] w fun e w' => e = .returned (.bool true) ∧ Below w.heap.size w w' := by
  go_enter Try.func4, Try.ntmps4
  go_wp2_with fail
  go_region_held3 (fun w' => w'.cell? ⟨w.heap.size, 0, none⟩ = some (.float .f32 a) ∧ w'.cell? ⟨w.heap.size, 1, none⟩ = some (.float .f32 b) ∧ w'.cell? ⟨w.heap.size, 2, none⟩ = some (.float .f32 c) ∧ w'.cell? ⟨w.heap.size + 1, 0, none⟩ = some (.float .f32 x) ∧ w'.cell? ⟨w.heap.size + 1, 1, none⟩ = some (.float .f32 y) ∧ w'.cell? ⟨w.heap.size + 1, 2, none⟩ = some (.float .f32 z) ∧ w.heap.size + 2 ≤ w'.heap.size ∧ Below w.heap.size w w') (first | (refine ⟨by go_keep, by go_keep, by go_keep, by go_keep, by go_keep, by go_keep, by simp, ?_⟩; (repeat (first | exact Below.refl _ _ | assumption | (refine Below.drewN ?_ _) | (refine Below.setCell ?_ (by first | (simp; done) | (simp; omega)) _) | (refine Below.drew ?_) | (refine Below.alloc ?_ (by first | (simp; done) | (simp; omega)) _))); done) | with_reducible exact keep2 (by assumption) (by assumption))
    (first | (go_at_call 10; refine (laws_toVector _ _ _ _).mono ?_; rintro e w' ⟨rfl, hb⟩) | (go_at_call 13; refine (spec_SameVector _ _ _ _ _ _ ua ub uc ux uy uz _).mono ?_; rw [ht.out]; rintro e w' ⟨rfl, hb⟩))
  go_wp2_with fail
  go_region_held3 (fun w' => w'.cell? ⟨w.heap.size, 0, none⟩ = some (.float .f32 a) ∧ w'.cell? ⟨w.heap.size, 1, none⟩ = some (.float .f32 b) ∧ w'.cell? ⟨w.heap.size, 2, none⟩ = some (.float .f32 c) ∧ w'.cell? ⟨w.heap.size + 1, 0, none⟩ = some (.float .f32 x) ∧ w'.cell? ⟨w.heap.size + 1, 1, none⟩ = some (.float .f32 y) ∧ w'.cell? ⟨w.heap.size + 1, 2, none⟩ = some (.float .f32 z) ∧ w.heap.size + 2 ≤ w'.heap.size ∧ Below w.heap.size w w') (first | with_reducible exact keep2d (by assumption) | with_reducible exact keep2 (by assumption) (by assumption))
    (first | (go_at_call 10; refine (laws_toVector _ _ _ _).mono ?_; rintro e w' ⟨rfl, hb⟩) | (go_at_call 14; refine (impl_SameVector _ _ _ _ _ _ ua ub uc ux uy uz _).mono ?_; rw [ht.out]; rintro e w' ⟨rfl, hb⟩))
  rename_i hfin
  cases t
  · go_wp2_with fail
    go_ret
    exact ⟨rfl, hfin.2.2.2.2.2.2.2⟩
  · go_wp2_with fail
    go_ret
    exact ⟨rfl, hfin.2.2.2.2.2.2.2⟩

theorem fnExactSameVector_walk (w : World) (a0x a0y a0z : Nat) (w0x : a0x < 2 ^ 32) (w0y : a0y < 2 ^ 32) (w0z : a0z < 2 ^ 32) (a1x a1y a1z : Nat) (w1x : a1x < 2 ^ 32) (w1y : a1y < 2 ^ 32) (w1z : a1z < 2 ^ 32) :
    Calls Try.prog 4 #[.agg #[.float .f32 a0x, .float .f32 a0y, .float .f32 a0z], .agg #[.float .f32 a1x, .float .f32 a1y, .float .f32 a1z]] w fun e w' => e = .returned (.bool true) ∧ Below w.heap.size w w' := fnExactSameVector_walk1 w _ _ _ _ _ _ w0x w0y w0z w1x w1y w1z _ (show Hid (_ = _) from rfl)
end Go.Proofs.Ytmbfdpplkbdpiac
