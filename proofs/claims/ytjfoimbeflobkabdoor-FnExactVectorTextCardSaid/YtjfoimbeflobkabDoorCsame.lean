/-
  Contracts: sameFloat answers true for two floats of one value; the plain functions on bits.
-/
import Derived.Test.YtjfoimbeflobkabDoorStep
import Derived.Test.YtjfoimbeflobkabDoorNum
namespace Go.Proofs.YtjfoimbeflobkabDoor
open Fl Go.RowKit
set_option linter.unusedVariables false

theorem order_self {k : FloatKind} {x : Nat} (h : val k x = some x) : k.format.order x x = some .eq := by
  rw [order_key k ((nn_iff k x).1 h) ((nn_iff k x).1 h)]
  congr 1
  rw [Int.compare_eq_eq]

theorem order_nan {k : FloatKind} {x : Nat} (y : Nat) (h : val k x = none) : k.format.order x y = none := by
  rw [order_cmp, h]; rfl

theorem order_nan' {k : FloatKind} {x : Nat} (y : Nat) (h : val k x = none) : k.format.order y x = none := by
  rw [order_cmp, h]; cases val k y <;> rfl

theorem sameFloat_eq (a b : Nat) (h : val .f64 a = val .f64 b) (w : World) :
    Calls Tryd.prog 33 #[.float .f64 a, .float .f64 b] w fun e w' => e = .returned (.bool true) ∧ ∃ n, w' = w.drewN n := by
  rcases val_cases .f64 a with ha | ha
  · have hb : a = b := by rw [ha] at h; exact val_some h.symm
    subst hb
    have h1 := order_self ha
    by_cases hz : FloatKind.f64.format.order a 0 = some .eq
    · go_enter Tryd.func33, Tryd.ntmps33
      go_wp2_with (refine wpList_fbin rfl _ _ _ _ _ rfl (by decide) _ _ _ rfl rfl ?_; intro r n hr)
      rename_i r1 n1 hr1
      go_ret
      refine ⟨?_, _, rfl⟩
      show Ending.returned (.bool ((FloatKind.f64.format.order r1 0 == some .gt) == (FloatKind.f64.format.order r 0 == some .gt))) = _
      rw [order_cmp _ r1, order_cmp _ r, hr1.val, hr.val, beq_self_eq_true]
    · have hz' : (FloatKind.f64.format.order a 0 == some Ordering.eq) = false := by simpa using hz
      go_enter Tryd.func33, Tryd.ntmps33
      go_wp2
      go_ret
      exact ⟨rfl, 0, rfl⟩
  · have hb : val .f64 b = none := by rw [← h]; exact ha
    have h1 := order_nan a ha
    have h2 := order_nan b hb
    go_enter Tryd.func33, Tryd.ntmps33
    go_wp2
    go_ret
    exact ⟨rfl, 0, rfl⟩
end Go.Proofs.YtjfoimbeflobkabDoor
