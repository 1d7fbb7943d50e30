/-
  Contracts: vectors. toVector, eqVector.
-/
import Derived.Test.YtjfoimbeflobkabDoorA4
import Derived.Test.YtjfoimbeflobkabDoorStep
import Derived.Test.YtjfoimbeflobkabDoorCsame
import Derived.Below
import Derived.Deep.RegionHeld3
import Derived.Handy
import Derived.Laws.Alloc2
import Derived.Laws.NewBlocks
import Derived.Deep.WholeRow
namespace Go.Proofs.YtjfoimbeflobkabDoor
open Fl Go.RowKit
set_option linter.unusedVariables false

@[go_sem] theorem run_store_float {P : Program} {w : World} {a : Addr} {m : Mode} (k : FloatKind) (b : Nat) : (store a (.float k b) m).run P w = stored P w a (.float k b) m := run_store P w a _ m rfl

theorem setCell_same_of {w : World} {a : Addr} {v : Value} (h : (w.cell? a).isSome = true) : (w.setCell a v).cell? a = some v := by
  obtain ⟨u, hu⟩ := Option.isSome_iff_exists.1 h
  exact World.cell?_setCell_same _ _ _ hu

theorem Below.drewN {B : Nat} {a w : World} (h : Below B a w) (n : Nat) : Below B a (w.drewN n) := ⟨h.os, h.tape, h.output, h.size, h.block⟩

theorem laws_toVector (x y z : Nat) (w : World) : Calls Tryd.prog 18 #[.agg #[.float .f32 x, .float .f32 y, .float .f32 z]] w fun e w' => e = .returned (.agg #[.float .f32 x, .float .f32 y, .float .f32 z]) ∧ Below w.heap.size w w' := by
  go_enter Tryd.func18, Tryd.ntmps18
  go_wp2
  go_returns
  refine ⟨rfl, ?_⟩
  (repeat (first | exact Below.refl _ _ | assumption | (refine Below.drewN ?_ _) | (refine Below.setCell ?_ (by first | (simp; done) | (simp; omega)) _) | (refine Below.drew ?_) | (refine Below.alloc ?_ (by first | (simp; done) | (simp; omega)) _)))

theorem laws_eqVector (a b c x y z : Nat) (X Y Z : Option Nat) (ha : FR .f32 a X) (hb : FR .f32 b Y) (hc : FR .f32 c Z) (hx : FR .f32 x X) (hy : FR .f32 y Y) (hz : FR .f32 z Z) (w : World) :
    Calls Tryd.prog 26 #[.agg #[.float .f32 a, .float .f32 b, .float .f32 c], .agg #[.float .f32 x, .float .f32 y, .float .f32 z]] w fun e w' => e = .returned (.bool true) ∧ Below w.heap.size w w' := by
  go_enter Tryd.func26, Tryd.ntmps26
  go_wp2_with (first | (refine wpList_widen (o := ⟨some 7, _, _, _, _, _⟩) rfl _ _ _ rfl _ rfl (by kernel_rfl) (by kernel_rfl) ?_; intro a1 na1 ha1; rw [ha.val] at ha1) | (refine wpList_widen (o := ⟨some 10, _, _, _, _, _⟩) rfl _ _ _ rfl _ rfl (by kernel_rfl) (by kernel_rfl) ?_; intro x1 nx1 hx1; rw [hx.val] at hx1) | (refine wpList_widen (o := ⟨some 15, _, _, _, _, _⟩) rfl _ _ _ rfl _ rfl (by kernel_rfl) (by kernel_rfl) ?_; intro b1 nb1 hb1; rw [hb.val] at hb1) | (refine wpList_widen (o := ⟨some 18, _, _, _, _, _⟩) rfl _ _ _ rfl _ rfl (by kernel_rfl) (by kernel_rfl) ?_; intro y1 ny1 hy1; rw [hy.val] at hy1) | (refine wpList_widen (o := ⟨some 23, _, _, _, _, _⟩) rfl _ _ _ rfl _ rfl (by kernel_rfl) (by kernel_rfl) ?_; intro c1 nc1 hc1; rw [hc.val] at hc1) | (refine wpList_widen (o := ⟨some 26, _, _, _, _, _⟩) rfl _ _ _ rfl _ rfl (by kernel_rfl) (by kernel_rfl) ?_; intro z1 nz1 hz1; rw [hz.val] at hz1) | (go_at_call 33; refine (sameFloat_FR _ _ _ (by assumption) (by assumption) _).mono ?_; rintro e w' ⟨rfl, n, rfl⟩) | fail)
  go_ret
  refine ⟨rfl, ?_⟩
  (repeat (first | exact Below.refl _ _ | assumption | (refine Below.drewN ?_ _) | (refine Below.setCell ?_ (by first | (simp; done) | (simp; omega)) _) | (refine Below.drew ?_) | (refine Below.alloc ?_ (by first | (simp; done) | (simp; omega)) _)))
end Go.Proofs.YtjfoimbeflobkabDoor
