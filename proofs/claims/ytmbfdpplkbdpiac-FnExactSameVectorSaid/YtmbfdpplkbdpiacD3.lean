/-
  The law SameVector.
-/
import Derived.Test.YtmbfdpplkbdpiacC4
import Derived.Test.YtmbfdpplkbdpiacA3
namespace Go.Proofs.Ytmbfdpplkbdpiac
open Fl Go.RowKit
set_option linter.unusedVariables false

def sameVecV (a b c x y z : Nat) : Bool := sameV (val .f32 a) (val .f32 x) && (sameV (val .f32 b) (val .f32 y) && sameV (val .f32 c) (val .f32 z))

theorem impl_SameVector (a b c x y z : Nat) (ha : a < 4294967296) (hb : b < 4294967296) (hc : c < 4294967296) (hx : x < 4294967296) (hy : y < 4294967296) (hz : z < 4294967296) (w : World) : Calls Try.prog 14 #[.agg #[.float .f32 a, .float .f32 b, .float .f32 c], .agg #[.float .f32 x, .float .f32 y, .float .f32 z]] w fun e w' => e = .returned (.bool (sameVecV a b c x y z)) ∧ Below w.heap.size w w' := by
  unfold sameVecV
  cases h1 : sameV (val .f32 a) (val .f32 x) <;> cases h2 : sameV (val .f32 b) (val .f32 y) <;> cases h3 : sameV (val .f32 c) (val .f32 z)
  all_goals
    have H1 : Hid (sameV (val .f32 a) (val .f32 x) = _) := h1
    have H2 : Hid (sameV (val .f32 b) (val .f32 y) = _) := h2
    have H3 : Hid (sameV (val .f32 c) (val .f32 z) = _) := h3
    clear h1 h2 h3
    go_enter Try.func14, Try.ntmps14
    go_wp2_with (first | (go_at_call 26; refine (impl_SameNumber _ _ (by assumption) (by assumption) _).mono ?_; rintro e w' ⟨rfl, n1, rfl⟩; first | rw [H1.out] | rw [H2.out] | rw [H3.out]) | fail)
    go_ret
    refine ⟨rfl, ?_⟩
    (repeat (first | exact Below.refl _ _ | assumption | (refine Below.drewN ?_ _) | (refine Below.setCell ?_ (by first | (simp; done) | (simp; omega)) _) | (refine Below.drew ?_) | (refine Below.alloc ?_ (by first | (simp; done) | (simp; omega)) _)))

theorem spec_l01VSame (a b c x y z : Nat) (ha : a < 4294967296) (hb : b < 4294967296) (hc : c < 4294967296) (hx : x < 4294967296) (hy : y < 4294967296) (hz : z < 4294967296) (w : World) : Calls Try.prog 25 #[.agg #[.float .f32 a, .float .f32 b, .float .f32 c], .agg #[.float .f32 x, .float .f32 y, .float .f32 z]] w fun e w' => e = .returned (.bool (sameVecV a b c x y z)) ∧ Below w.heap.size w w' := by
  unfold sameVecV
  cases h1 : sameV (val .f32 a) (val .f32 x) <;> cases h2 : sameV (val .f32 b) (val .f32 y) <;> cases h3 : sameV (val .f32 c) (val .f32 z)
  all_goals
    have H1 : Hid (sameV (val .f32 a) (val .f32 x) = _) := h1
    have H2 : Hid (sameV (val .f32 b) (val .f32 y) = _) := h2
    have H3 : Hid (sameV (val .f32 c) (val .f32 z) = _) := h3
    clear h1 h2 h3
    go_enter Try.func25, Try.ntmps25
    go_wp2_with (first | (go_at_call 31; refine (spec_l01Same _ _ (by assumption) (by assumption) _).mono ?_; rintro e w' ⟨rfl, rfl⟩; first | rw [H1.out] | rw [H2.out] | rw [H3.out]) | fail)
    go_ret
    refine ⟨rfl, ?_⟩
    (repeat (first | exact Below.refl _ _ | assumption | (refine Below.drewN ?_ _) | (refine Below.setCell ?_ (by first | (simp; done) | (simp; omega)) _) | (refine Below.drew ?_) | (refine Below.alloc ?_ (by first | (simp; done) | (simp; omega)) _)))

theorem spec_SameVector (a b c x y z : Nat) (ha : a < 4294967296) (hb : b < 4294967296) (hc : c < 4294967296) (hx : x < 4294967296) (hy : y < 4294967296) (hz : z < 4294967296) (w : World) : Calls Try.prog 13 #[.agg #[.float .f32 a, .float .f32 b, .float .f32 c], .agg #[.float .f32 x, .float .f32 y, .float .f32 z]] w fun e w' => e = .returned (.bool (sameVecV a b c x y z)) ∧ Below w.heap.size w w' := by
  go_enter Try.func13, Try.ntmps13
  go_wp2_with (first | (go_at_call 25; refine (spec_l01VSame a b c x y z ha hb hc hx hy hz _).mono ?_; rintro e w' ⟨rfl, hb⟩; have hbw : Below w.heap.size w w' := Below.trans (by (repeat (first | exact Below.refl _ _ | assumption | (refine Below.drewN ?_ _) | (refine Below.setCell ?_ (by first | (simp; done) | (simp; omega)) _) | (refine Below.drew ?_) | (refine Below.alloc ?_ (by first | (simp; done) | (simp; omega)) _)))) (hb.mono (by first | (simp; done) | (simp; omega)))) | fail)
  go_ret
  exact ⟨rfl, hbw⟩
end Go.Proofs.Ytmbfdpplkbdpiac
