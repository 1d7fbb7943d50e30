/-
  Contracts and walks: BitsOf, FromBits, IsSubnormal, SameNumber on both sides.
-/
import Derived.Test.YtjfoimbeflobkabDoorCsame
import Derived.Test.YtjfoimbeflobkabDoorExt
import Derived.Test.YtjfoimbeflobkabDoorBits
namespace Go.Proofs.YtjfoimbeflobkabDoor
open Fl Ieee Go.RowKit
set_option linter.unusedVariables false

theorem below_drewN2 (w : World) (n : Nat) : Below w.heap.size w (w.drewN n) := ⟨rfl, rfl, rfl, Nat.le_refl _, fun _ _ => rfl⟩

theorem impl_BitsOf (x : Nat) (hx : x < 4294967296) (w : World) : Calls Tryd.prog 44 #[.float .f32 x] w fun e w' => e = .returned (.int .i64 (bitsV (val .f32 x))) ∧ w' = w := by
  rcases val_cases .f32 x with h | h
  · have h1 := order_self h
    go_enter Tryd.func44, Tryd.ntmps44
    go_wp2
    go_ret
    exact ⟨by rw [h]; rfl, rfl⟩
  · have h1 := order_nan x h
    go_enter Tryd.func44, Tryd.ntmps44
    go_wp2
    go_ret
    exact ⟨by rw [h]; rfl, rfl⟩

theorem spec_l01Bits (x : Nat) (hx : x < 4294967296) (w : World) : Calls Tryd.prog 48 #[.float .f32 x] w fun e w' => e = .returned (.int .i64 (bitsV (val .f32 x))) ∧ w' = w := by
  rcases val_cases .f32 x with h | h
  · have h1 := order_self h
    go_enter Tryd.func48, Tryd.ntmps48
    go_wp2
    go_ret
    exact ⟨by rw [h]; rfl, rfl⟩
  · have h1 := order_nan x h
    go_enter Tryd.func48, Tryd.ntmps48
    go_wp2
    go_ret
    exact ⟨by rw [h]; rfl, rfl⟩

/-! ### IsSubnormal -/

/-- Not zero and nearer to zero than the least normal number. -/
def subV : Option Nat → Bool
  | none => false
  | some b => decide (b % 2147483648 ≠ 0 ∧ b % 2147483648 < 8388608)

theorem order_zero {x : Nat} (h : val .f32 x = some x) : (FloatKind.f32.format.order x 0 != some .eq) = decide (x % 2147483648 ≠ 0) := by
  have h0 := (nn_iff .f32 x).1 h
  rw [order_key .f32 h0 (by decide)]
  have hk : key single x = 0 ↔ x % 2147483648 = 0 := by
    have : rung single x = x % 2147483648 := rfl
    unfold key; rw [this]; split <;> omega
  by_cases hz : x % 2147483648 = 0
  · have hk0 := hk.2 hz
    show (some (compare (key single x) 0) != some Ordering.eq) = _
    rw [hk0, hz]; rfl
  · have hk0 : key single x ≠ 0 := fun h => hz (hk.1 h)
    rw [decide_eq_true hz]
    show (some (compare (key single x) 0) != some Ordering.eq) = true
    simp only [bne_iff_ne, ne_eq, Option.some.injEq, Int.compare_eq_eq]
    exact hk0

theorem W_rung_lt (x : Nat) (h : rung single x ≤ single.infRung) (s : Nat) (hs : s < single.infRung) (c : Nat) (hc : mg double c = mg single s * 2 ^ 925) (hci : c < double.infRung) :
    rung double (W x) < c ↔ rung single x < s := by
  rcases Nat.lt_or_ge (rung single x) single.infRung with h' | h'
  · rw [← mg_lt_iff double, (W_fin h').1, hc, ← mg_lt_iff single (r := rung single x) (s := s)]
    exact Nat.mul_lt_mul_right (Nat.two_pow_pos 925)
  · have e : rung single x = single.infRung := by omega
    rw [(W_inf e).1, e]
    omega

theorem wid_some {x r : Nat} (hv : val .f32 x = some x) (hr : FR .f64 r (wid (val .f32 x))) : r = W x := by
  have h := hr.val
  rw [hv] at h
  exact (val_some h).symm

theorem wid_none {x r : Nat} (hv : val .f32 x = none) (hr : FR .f64 r (wid (val .f32 x))) : val .f64 r = none := by
  have h := hr.val
  rw [hv] at h
  exact h

theorem W_nn (x : Nat) (h : rung single x ≤ single.infRung) : rung double (W x) ≤ double.infRung := by
  rcases Nat.lt_or_ge (rung single x) single.infRung with h' | h'
  · exact Nat.le_of_lt (W_fin h').2.2
  · rw [(W_inf (by omega)).1]; exact Nat.le_refl _

theorem abs_less {x r : Nat} (hr : FR .f64 r (wid (val .f32 x))) (hx : x < 4294967296) :
    (FloatKind.f64.format.order (r % 9223372036854775808) 4039728865751334912 == some .lt) = (match val .f32 x with | none => false | some b => decide (b % 2147483648 < 8388608)) := by
  have hlt : r < 18446744073709551616 := hr.lt
  rcases val_cases .f32 x with h | h
  · have e := wid_some h hr
    have hnn := (nn_iff .f32 x).1 h
    have hW := W_nn x hnn
    rw [h]
    dsimp only
    have hrung : rung double (r % 9223372036854775808) = rung double (W x) := by
      rw [e]; show W x % 9223372036854775808 % 9223372036854775808 = W x % 9223372036854775808; omega
    have hs : sgn double (r % 9223372036854775808) = false := by rw [(f64_split (by omega)).2]; simp; omega
    rw [order_key .f64 (by show rung double _ ≤ _; rw [hrung]; exact hW) (by decide)]
    have hkey : key double (r % 9223372036854775808) = (rung double (W x) : Int) := by unfold key; rw [hs, hrung]; rfl
    have hkc : key double 4039728865751334912 = (4039728865751334912 : Int) := by decide
    show (some (compare (key double (r % 9223372036854775808)) (key double 4039728865751334912)) == some Ordering.lt) = _
    rw [hkey, hkc]
    have hiff := W_rung_lt x hnn 8388608 (by decide) 4039728865751334912 (by decide +kernel) (by decide)
    have hrx : rung single x = x % 2147483648 := rfl
    by_cases hc : x % 2147483648 < 8388608
    · have h1 := hiff.2 (by rw [hrx]; exact hc)
      rw [decide_eq_true hc, Int.compare_eq_lt.2 (by omega)]; rfl
    · have h1 : ¬ rung double (W x) < 4039728865751334912 := fun h' => hc (by have := hiff.1 h'; rw [hrx] at this; exact this)
      rw [decide_eq_false hc]
      simp only [beq_eq_false_iff_ne, ne_eq, Option.some.injEq, Int.compare_eq_lt]
      omega
  · have hn := wid_none h hr
    rw [h]
    dsimp only
    have : val .f64 (r % 9223372036854775808) = none := by
      rw [val64] at hn ⊢
      split at hn
      · cases hn
      · rename_i h2; rw [if_neg]; omega
    rw [order_nan _ this]; rfl

end Go.Proofs.YtjfoimbeflobkabDoor
