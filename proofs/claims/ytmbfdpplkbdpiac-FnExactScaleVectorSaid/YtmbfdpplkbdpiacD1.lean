/-
  The law ScaleVector.
-/
import Derived.Test.YtmbfdpplkbdpiacC5
namespace Go.Proofs.Ytmbfdpplkbdpiac
open Fl Go.RowKit
set_option linter.unusedVariables false

theorem fnExactScaleVector_walk0 (w : World) (a b c x : Nat) :
    Calls Try.prog 7 #[.agg #[.float .f32 a, .float .f32 b, .float .f32 c], .float .f32 x] w fun e w' => e = .returned (.bool true) ∧ Below w.heap.size w w' := by
  have hx0 := Cells3.new w (.float .f32 a) (.float .f32 b) (.float .f32 c) 24
  have bw0 : Below w.heap.size w (w.alloc (.cells #[.float .f32 a, .float .f32 b, .float .f32 c] 24)) := Below.alloc (Below.refl _ _) (Nat.le_refl _) _
  go_enter Try.func7, Try.ntmps7
  go_wp2_with (first | (go_at_call 10; refine (laws_toVector _ _ _ _).mono ?_; rintro e w' ⟨rfl, hb⟩; first | (have hx := Cells3.below hb hx0; have bw := bw0.trans (hb.mono bw0.size); have hxx := hx; obtain ⟨c0, c1, c2, y0, y1, y2, hs⟩ := hxx) | (have hB := Cells3.below hb (Cells3.new _ _ _ _ _); have bw3 := (Below.alloc bw2 bw2.size _).trans (hb.mono (Below.alloc bw2 bw2.size _).size); have hBB := hB)) | (go_at_call 20; refine (spec_ScaleVector _ _ _ _ _).mono ?_; rintro e w' ⟨p1, q1, r1, rfl, hp1, hq1, hr1, hb⟩; have hx2 := Cells3.below hb hx; have bw2 := bw.trans (hb.mono bw.size); obtain ⟨d0, d1, d2, _, _, _, ds⟩ := hx2) | (go_at_call 21; refine (impl_ScaleVector _ _ _ _ _).mono ?_; rintro e w' ⟨p2, q2, r2, rfl, hp2, hq2, hr2, hb⟩; have hB2 := Cells3.below hb hB; have bw4 := bw3.trans (hb.mono bw3.size); obtain ⟨f0, f1, f2, _, _, _, fs⟩ := hB2) | (go_at_call 17; refine (laws_eqVector _ _ _ _ _ _ _ _ _ hp2 hq2 hr2 hp1 hq1 hr1 _).mono ?_; rintro e w' ⟨rfl, hb⟩) | fail)
  go_ret
  exact ⟨rfl, (Below.alloc bw4 bw4.size _).trans (hb.mono (Below.alloc bw4 bw4.size _).size)⟩

theorem fnExactScaleVector_walk (w : World) (a0x a0y a0z : Nat) (w0x : a0x < 2 ^ 32) (w0y : a0y < 2 ^ 32) (w0z : a0z < 2 ^ 32) (a1 : Nat) (w1 : a1 < 2 ^ FloatKind.f32.format.width) :
    Calls Try.prog 7 #[.agg #[.float .f32 a0x, .float .f32 a0y, .float .f32 a0z], .float .f32 a1] w fun e w' => e = .returned (.bool true) ∧ Below w.heap.size w w' := fnExactScaleVector_walk0 w _ _ _ _
end Go.Proofs.Ytmbfdpplkbdpiac
