/-
  The law LongOf.
-/
import Derived.Test.YtmbfdpplkbdpiadC5
import Derived.Test.YtmbfdpplkbdpiadB1
namespace Go.Proofs.Ytmbfdpplkbdpiad
open Fl Go.RowKit
set_option linter.unusedVariables false

/-- The inner product of a vector with itself. -/
def innV (X Y Z : Option Nat) : Option Nat := bin .add .f32 (bin .add .f32 (bin .mul .f32 X X) (bin .mul .f32 Y Y)) (bin .mul .f32 Z Z)
def longV (X Y Z : Option Nat) : Option Nat := nar (sqrtV (wid (innV X Y Z)))

theorem impl_LongOf (a b c : Nat) (w : World) : Calls Try.prog 14 #[.agg #[.float .f32 a, .float .f32 b, .float .f32 c]] w fun e w' => ∃ r, e = .returned (.float .f32 r) ∧ FR .f32 r (longV (val .f32 a) (val .f32 b) (val .f32 c)) ∧ Below w.heap.size w w' := by
  have bw0 : Below w.heap.size w (w.alloc (.cells #[.float .f32 a, .float .f32 b, .float .f32 c] 25)) := Below.alloc (Below.refl _ _) (Nat.le_refl _) _
  go_enter Try.func14, Try.ntmps14
  go_wp2_with (first | (go_at_call 32; refine (impl_InnerOf _ _ _ _ _ _ _).mono ?_; rintro e w' ⟨s, rfl, hs, hb⟩; have bw := bw0.trans (hb.mono bw0.size); have hslt : s < 4294967296 := hs.lt) | (go_at_call 31; refine (impl_RootNumber _ hslt _).mono ?_; rintro e w' ⟨r, rfl, hr, n, rfl⟩) | fail)
  go_ret
  refine ⟨r, rfl, ?_, Below.drewN bw n⟩
  rw [hs.val] at hr
  exact hr

theorem spec_l01Long (a b c : Nat) (w : World) : Calls Try.prog 30 #[.agg #[.float .f32 a, .float .f32 b, .float .f32 c]] w fun e w' => ∃ r, e = .returned (.float .f32 r) ∧ FR .f32 r (longV (val .f32 a) (val .f32 b) (val .f32 c)) ∧ Below w.heap.size w w' := by
  have bw0 : Below w.heap.size w (w.alloc (.cells #[.float .f32 a, .float .f32 b, .float .f32 c] 25)) := Below.alloc (Below.refl _ _) (Nat.le_refl _) _
  go_enter Try.func30, Try.ntmps30
  go_wp2_with (first | (go_at_call 47; refine (spec_l01Inner _ _ _ _ _ _ _).mono ?_; rintro e w' ⟨s, rfl, hs, hb⟩; have bw := bw0.trans (hb.mono bw0.size); have hslt : s < 4294967296 := hs.lt) | (go_at_call 46; refine (spec_l01Sqrt _ hslt _).mono ?_; rintro e w' ⟨r, rfl, hr, n, rfl⟩) | fail)
  go_ret
  refine ⟨r, rfl, ?_, Below.drewN bw n⟩
  rw [hs.val] at hr
  exact hr

theorem spec_LongOf (a b c : Nat) (w : World) : Calls Try.prog 13 #[.agg #[.float .f32 a, .float .f32 b, .float .f32 c]] w fun e w' => ∃ r, e = .returned (.float .f32 r) ∧ FR .f32 r (longV (val .f32 a) (val .f32 b) (val .f32 c)) ∧ Below w.heap.size w w' := by
  have bw0 : Below w.heap.size w (w.alloc (.cells #[.float .f32 a, .float .f32 b, .float .f32 c] 25)) := Below.alloc (Below.refl _ _) (Nat.le_refl _) _
  go_enter Try.func13, Try.ntmps13
  go_wp2_with (first | (go_at_call 30; refine (spec_l01Long _ _ _ _).mono ?_; rintro e w' ⟨r, rfl, hr, hb⟩; have bw := bw0.trans (hb.mono bw0.size)) | fail)
  go_ret
  exact ⟨r, rfl, hr, bw⟩

theorem fnExactLongOf_walk0 (w : World) (a b c : Nat) :
    Calls Try.prog 4 #[.agg #[.float .f32 a, .float .f32 b, .float .f32 c]] w fun e w' => e = .returned (.bool true) ∧ Below w.heap.size w w' := by
  have hx0 := Cells3.new w (.float .f32 a) (.float .f32 b) (.float .f32 c) 24
  have bw0 : Below w.heap.size w (w.alloc (.cells #[.float .f32 a, .float .f32 b, .float .f32 c] 24)) := Below.alloc (Below.refl _ _) (Nat.le_refl _) _
  go_enter Try.func4, Try.ntmps4
  go_wp2_with (first | (go_at_call 10; refine (laws_toVector _ _ _ _).mono ?_; rintro e w' ⟨rfl, hb⟩; first | (have hx := Cells3.below hb hx0; have bw := bw0.trans (hb.mono bw0.size)) | (have bw3 := bw2.trans (hb.mono bw2.size))) | (go_at_call 13; refine (spec_LongOf _ _ _ _).mono ?_; rintro e w' ⟨r1, rfl, hr1, hb⟩; have hx2 := Cells3.below hb hx; have bw2 := bw.trans (hb.mono bw.size); obtain ⟨d0, d1, d2, _, _, _, ds⟩ := hx2) | (go_at_call 14; refine (impl_LongOf _ _ _ _).mono ?_; rintro e w' ⟨r2, rfl, hr2, hb⟩; have bw4 := bw3.trans (hb.mono bw3.size)) | (refine wpList_widen (o := ⟨some 12, _, _, _, _, _⟩) rfl _ _ _ rfl _ rfl (by kernel_rfl) (by kernel_rfl) ?_; intro q2 nq2 hq2; rw [hr2.val] at hq2) | (refine wpList_widen (o := ⟨some 14, _, _, _, _, _⟩) rfl _ _ _ rfl _ rfl (by kernel_rfl) (by kernel_rfl) ?_; intro q1 nq1 hq1; rw [hr1.val] at hq1) | (go_at_call 15; refine (sameFloat_FR _ _ _ (by assumption) (by assumption) _).mono ?_; rintro e w' ⟨rfl, n, rfl⟩) | fail)
  go_ret
  exact ⟨rfl, Below.drewN bw4 _⟩

theorem fnExactLongOf_walk (w : World) (a0x a0y a0z : Nat) (w0x : a0x < 2 ^ 32) (w0y : a0y < 2 ^ 32) (w0z : a0z < 2 ^ 32) :
    Calls Try.prog 4 #[.agg #[.float .f32 a0x, .float .f32 a0y, .float .f32 a0z]] w fun e w' => e = .returned (.bool true) ∧ Below w.heap.size w w' := fnExactLongOf_walk0 w _ _ _
end Go.Proofs.Ytmbfdpplkbdpiad
