/-
  Contracts: vectors: sums, differences, multiples, inner and cross products, both sides. (Printed by gen/gen_vec.py)
-/
import Derived.Test.YtmbfdpplkbdpiadC1
namespace Go.Proofs.Ytmbfdpplkbdpiad
open Fl Go.RowKit
set_option linter.unusedVariables false

theorem impl_AddVectors (a b c x y z : Nat) (w : World) : Calls Try.prog 27 #[.agg #[.float .f32 a, .float .f32 b, .float .f32 c], .agg #[.float .f32 x, .float .f32 y, .float .f32 z]] w fun e w' => ∃ p q r, e = .returned (.agg #[.float .f32 p, .float .f32 q, .float .f32 r]) ∧ FR .f32 p (bin .add .f32 (val .f32 a) (val .f32 x)) ∧ FR .f32 q (bin .add .f32 (val .f32 b) (val .f32 y)) ∧ FR .f32 r (bin .add .f32 (val .f32 c) (val .f32 z)) ∧ Below w.heap.size w w' := by
  go_enter Try.func27, Try.ntmps27
  go_wp2_with (first | (refine wpList_fbin (o := ⟨some 9, _, _, _, _, _⟩) rfl _ _ _ _ _ rfl (by decide) _ _ _ rfl rfl ?_; intro p np hp) | (refine wpList_fbin (o := ⟨some 14, _, _, _, _, _⟩) rfl _ _ _ _ _ rfl (by decide) _ _ _ rfl rfl ?_; intro q nq hq) | (refine wpList_fbin (o := ⟨some 19, _, _, _, _, _⟩) rfl _ _ _ _ _ rfl (by decide) _ _ _ rfl rfl ?_; intro r nr hr) | fail)
  go_returns
  refine ⟨p, q, r, rfl, hp, hq, hr, ?_⟩
  (repeat (first | exact Below.refl _ _ | assumption | (refine Below.drewN ?_ _) | (refine Below.setCell ?_ (by first | (simp; done) | (simp; omega)) _) | (refine Below.drew ?_) | (refine Below.alloc ?_ (by first | (simp; done) | (simp; omega)) _)))

theorem spec_l01Add (a b c x y z : Nat) (w : World) : Calls Try.prog 43 #[.agg #[.float .f32 a, .float .f32 b, .float .f32 c], .agg #[.float .f32 x, .float .f32 y, .float .f32 z]] w fun e w' => ∃ p q r, e = .returned (.agg #[.float .f32 p, .float .f32 q, .float .f32 r]) ∧ FR .f32 p (bin .add .f32 (val .f32 a) (val .f32 x)) ∧ FR .f32 q (bin .add .f32 (val .f32 b) (val .f32 y)) ∧ FR .f32 r (bin .add .f32 (val .f32 c) (val .f32 z)) ∧ Below w.heap.size w w' := by
  go_enter Try.func43, Try.ntmps43
  go_wp2_with (first | (refine wpList_fbin (o := ⟨some 9, _, _, _, _, _⟩) rfl _ _ _ _ _ rfl (by decide) _ _ _ rfl rfl ?_; intro p np hp) | (refine wpList_fbin (o := ⟨some 14, _, _, _, _, _⟩) rfl _ _ _ _ _ rfl (by decide) _ _ _ rfl rfl ?_; intro q nq hq) | (refine wpList_fbin (o := ⟨some 19, _, _, _, _, _⟩) rfl _ _ _ _ _ rfl (by decide) _ _ _ rfl rfl ?_; intro r nr hr) | fail)
  go_returns
  refine ⟨p, q, r, rfl, hp, hq, hr, ?_⟩
  (repeat (first | exact Below.refl _ _ | assumption | (refine Below.drewN ?_ _) | (refine Below.setCell ?_ (by first | (simp; done) | (simp; omega)) _) | (refine Below.drew ?_) | (refine Below.alloc ?_ (by first | (simp; done) | (simp; omega)) _)))

theorem impl_LessVectors (a b c x y z : Nat) (w : World) : Calls Try.prog 29 #[.agg #[.float .f32 a, .float .f32 b, .float .f32 c], .agg #[.float .f32 x, .float .f32 y, .float .f32 z]] w fun e w' => ∃ p q r, e = .returned (.agg #[.float .f32 p, .float .f32 q, .float .f32 r]) ∧ FR .f32 p (bin .sub .f32 (val .f32 a) (val .f32 x)) ∧ FR .f32 q (bin .sub .f32 (val .f32 b) (val .f32 y)) ∧ FR .f32 r (bin .sub .f32 (val .f32 c) (val .f32 z)) ∧ Below w.heap.size w w' := by
  go_enter Try.func29, Try.ntmps29
  go_wp2_with (first | (refine wpList_fbin (o := ⟨some 9, _, _, _, _, _⟩) rfl _ _ _ _ _ rfl (by decide) _ _ _ rfl rfl ?_; intro p np hp) | (refine wpList_fbin (o := ⟨some 14, _, _, _, _, _⟩) rfl _ _ _ _ _ rfl (by decide) _ _ _ rfl rfl ?_; intro q nq hq) | (refine wpList_fbin (o := ⟨some 19, _, _, _, _, _⟩) rfl _ _ _ _ _ rfl (by decide) _ _ _ rfl rfl ?_; intro r nr hr) | fail)
  go_returns
  refine ⟨p, q, r, rfl, hp, hq, hr, ?_⟩
  (repeat (first | exact Below.refl _ _ | assumption | (refine Below.drewN ?_ _) | (refine Below.setCell ?_ (by first | (simp; done) | (simp; omega)) _) | (refine Below.drew ?_) | (refine Below.alloc ?_ (by first | (simp; done) | (simp; omega)) _)))

theorem spec_l01Less (a b c x y z : Nat) (w : World) : Calls Try.prog 45 #[.agg #[.float .f32 a, .float .f32 b, .float .f32 c], .agg #[.float .f32 x, .float .f32 y, .float .f32 z]] w fun e w' => ∃ p q r, e = .returned (.agg #[.float .f32 p, .float .f32 q, .float .f32 r]) ∧ FR .f32 p (bin .sub .f32 (val .f32 a) (val .f32 x)) ∧ FR .f32 q (bin .sub .f32 (val .f32 b) (val .f32 y)) ∧ FR .f32 r (bin .sub .f32 (val .f32 c) (val .f32 z)) ∧ Below w.heap.size w w' := by
  go_enter Try.func45, Try.ntmps45
  go_wp2_with (first | (refine wpList_fbin (o := ⟨some 9, _, _, _, _, _⟩) rfl _ _ _ _ _ rfl (by decide) _ _ _ rfl rfl ?_; intro p np hp) | (refine wpList_fbin (o := ⟨some 14, _, _, _, _, _⟩) rfl _ _ _ _ _ rfl (by decide) _ _ _ rfl rfl ?_; intro q nq hq) | (refine wpList_fbin (o := ⟨some 19, _, _, _, _, _⟩) rfl _ _ _ _ _ rfl (by decide) _ _ _ rfl rfl ?_; intro r nr hr) | fail)
  go_returns
  refine ⟨p, q, r, rfl, hp, hq, hr, ?_⟩
  (repeat (first | exact Below.refl _ _ | assumption | (refine Below.drewN ?_ _) | (refine Below.setCell ?_ (by first | (simp; done) | (simp; omega)) _) | (refine Below.drew ?_) | (refine Below.alloc ?_ (by first | (simp; done) | (simp; omega)) _)))

theorem impl_ScaleVector (a b c x : Nat) (w : World) : Calls Try.prog 28 #[.agg #[.float .f32 a, .float .f32 b, .float .f32 c], .float .f32 x] w fun e w' => ∃ p q r, e = .returned (.agg #[.float .f32 p, .float .f32 q, .float .f32 r]) ∧ FR .f32 p (bin .mul .f32 (val .f32 a) (val .f32 x)) ∧ FR .f32 q (bin .mul .f32 (val .f32 b) (val .f32 x)) ∧ FR .f32 r (bin .mul .f32 (val .f32 c) (val .f32 x)) ∧ Below w.heap.size w w' := by
  go_enter Try.func28, Try.ntmps28
  go_wp2_with (first | (refine wpList_fbin (o := ⟨some 8, _, _, _, _, _⟩) rfl _ _ _ _ _ rfl (by decide) _ _ _ rfl rfl ?_; intro p np hp) | (refine wpList_fbin (o := ⟨some 12, _, _, _, _, _⟩) rfl _ _ _ _ _ rfl (by decide) _ _ _ rfl rfl ?_; intro q nq hq) | (refine wpList_fbin (o := ⟨some 16, _, _, _, _, _⟩) rfl _ _ _ _ _ rfl (by decide) _ _ _ rfl rfl ?_; intro r nr hr) | fail)
  go_returns
  refine ⟨p, q, r, rfl, hp, hq, hr, ?_⟩
  (repeat (first | exact Below.refl _ _ | assumption | (refine Below.drewN ?_ _) | (refine Below.setCell ?_ (by first | (simp; done) | (simp; omega)) _) | (refine Below.drew ?_) | (refine Below.alloc ?_ (by first | (simp; done) | (simp; omega)) _)))

theorem spec_l01Scale (a b c x : Nat) (w : World) : Calls Try.prog 44 #[.agg #[.float .f32 a, .float .f32 b, .float .f32 c], .float .f32 x] w fun e w' => ∃ p q r, e = .returned (.agg #[.float .f32 p, .float .f32 q, .float .f32 r]) ∧ FR .f32 p (bin .mul .f32 (val .f32 a) (val .f32 x)) ∧ FR .f32 q (bin .mul .f32 (val .f32 b) (val .f32 x)) ∧ FR .f32 r (bin .mul .f32 (val .f32 c) (val .f32 x)) ∧ Below w.heap.size w w' := by
  go_enter Try.func44, Try.ntmps44
  go_wp2_with (first | (refine wpList_fbin (o := ⟨some 8, _, _, _, _, _⟩) rfl _ _ _ _ _ rfl (by decide) _ _ _ rfl rfl ?_; intro p np hp) | (refine wpList_fbin (o := ⟨some 12, _, _, _, _, _⟩) rfl _ _ _ _ _ rfl (by decide) _ _ _ rfl rfl ?_; intro q nq hq) | (refine wpList_fbin (o := ⟨some 16, _, _, _, _, _⟩) rfl _ _ _ _ _ rfl (by decide) _ _ _ rfl rfl ?_; intro r nr hr) | fail)
  go_returns
  refine ⟨p, q, r, rfl, hp, hq, hr, ?_⟩
  (repeat (first | exact Below.refl _ _ | assumption | (refine Below.drewN ?_ _) | (refine Below.setCell ?_ (by first | (simp; done) | (simp; omega)) _) | (refine Below.drew ?_) | (refine Below.alloc ?_ (by first | (simp; done) | (simp; omega)) _)))

theorem impl_InnerOf (a b c x y z : Nat) (w : World) : Calls Try.prog 32 #[.agg #[.float .f32 a, .float .f32 b, .float .f32 c], .agg #[.float .f32 x, .float .f32 y, .float .f32 z]] w fun e w' => ∃ r, e = .returned (.float .f32 r) ∧ FR .f32 r (bin .add .f32 (bin .add .f32 (bin .mul .f32 (val .f32 a) (val .f32 x)) (bin .mul .f32 (val .f32 b) (val .f32 y))) (bin .mul .f32 (val .f32 c) (val .f32 z))) ∧ Below w.heap.size w w' := by
  go_enter Try.func32, Try.ntmps32
  go_wp2_with (first | (refine wpList_fbin (o := ⟨some 9, _, _, _, _, _⟩) rfl _ _ _ _ _ rfl (by decide) _ _ _ rfl rfl ?_; intro p np hp) | (refine wpList_fbin (o := ⟨some 14, _, _, _, _, _⟩) rfl _ _ _ _ _ rfl (by decide) _ _ _ rfl rfl ?_; intro q nq hq) | (refine wpList_fbin (o := ⟨some 15, _, _, _, _, _⟩) rfl _ _ _ _ _ rfl (by decide) _ _ _ rfl rfl ?_; intro s ns hs; rw [hp.val, hq.val] at hs) | (refine wpList_fbin (o := ⟨some 20, _, _, _, _, _⟩) rfl _ _ _ _ _ rfl (by decide) _ _ _ rfl rfl ?_; intro t nt ht) | (refine wpList_fbin (o := ⟨some 21, _, _, _, _, _⟩) rfl _ _ _ _ _ rfl (by decide) _ _ _ rfl rfl ?_; intro r nr hr; rw [hs.val, ht.val] at hr) | fail)
  go_ret
  refine ⟨r, rfl, hr, ?_⟩
  (repeat (first | exact Below.refl _ _ | assumption | (refine Below.drewN ?_ _) | (refine Below.setCell ?_ (by first | (simp; done) | (simp; omega)) _) | (refine Below.drew ?_) | (refine Below.alloc ?_ (by first | (simp; done) | (simp; omega)) _)))

theorem spec_l01Inner (a b c x y z : Nat) (w : World) : Calls Try.prog 47 #[.agg #[.float .f32 a, .float .f32 b, .float .f32 c], .agg #[.float .f32 x, .float .f32 y, .float .f32 z]] w fun e w' => ∃ r, e = .returned (.float .f32 r) ∧ FR .f32 r (bin .add .f32 (bin .add .f32 (bin .mul .f32 (val .f32 a) (val .f32 x)) (bin .mul .f32 (val .f32 b) (val .f32 y))) (bin .mul .f32 (val .f32 c) (val .f32 z))) ∧ Below w.heap.size w w' := by
  go_enter Try.func47, Try.ntmps47
  go_wp2_with (first | (refine wpList_fbin (o := ⟨some 9, _, _, _, _, _⟩) rfl _ _ _ _ _ rfl (by decide) _ _ _ rfl rfl ?_; intro p np hp) | (refine wpList_fbin (o := ⟨some 14, _, _, _, _, _⟩) rfl _ _ _ _ _ rfl (by decide) _ _ _ rfl rfl ?_; intro q nq hq) | (refine wpList_fbin (o := ⟨some 15, _, _, _, _, _⟩) rfl _ _ _ _ _ rfl (by decide) _ _ _ rfl rfl ?_; intro s ns hs; rw [hp.val, hq.val] at hs) | (refine wpList_fbin (o := ⟨some 20, _, _, _, _, _⟩) rfl _ _ _ _ _ rfl (by decide) _ _ _ rfl rfl ?_; intro t nt ht) | (refine wpList_fbin (o := ⟨some 21, _, _, _, _, _⟩) rfl _ _ _ _ _ rfl (by decide) _ _ _ rfl rfl ?_; intro r nr hr; rw [hs.val, ht.val] at hr) | fail)
  go_ret
  refine ⟨r, rfl, hr, ?_⟩
  (repeat (first | exact Below.refl _ _ | assumption | (refine Below.drewN ?_ _) | (refine Below.setCell ?_ (by first | (simp; done) | (simp; omega)) _) | (refine Below.drew ?_) | (refine Below.alloc ?_ (by first | (simp; done) | (simp; omega)) _)))

end Go.Proofs.Ytmbfdpplkbdpiad
