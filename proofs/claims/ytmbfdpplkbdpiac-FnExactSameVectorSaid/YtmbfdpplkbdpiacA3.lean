/-
  Contracts and walks: SameNumber and FromBits on both sides.
-/
import Derived.Test.YtmbfdpplkbdpiacA2
namespace Go.Proofs.Ytmbfdpplkbdpiac
open Fl Ieee Go.RowKit
set_option linter.unusedVariables false

theorem math_Signbit (x : Nat) (hx : x < 18446744073709551616) (w : World) : Calls Try.prog 32 #[.float .f64 x] w fun e w' => e = .returned (.bool (decide (9223372036854775808 ≤ x))) ∧ w' = w := by
  by_cases h : 9223372036854775808 ≤ x
  · have h1 : IntKind.i64.wrap (x : Int) = x - 18446744073709551616 := by rw [IntKind.wrap_i64]; omega
    go_enter Try.func32, Try.ntmps32
    go_wp2
    go_ret
    refine ⟨?_, rfl⟩
    congr 2
    rw [decide_eq_true h]
    simp; omega
  · have h0 : x < 9223372036854775808 := by omega
    clear h
    have h : ¬ 9223372036854775808 ≤ x := by omega
    go_enter Try.func32, Try.ntmps32
    go_wp2
    go_ret
    refine ⟨?_, rfl⟩
    congr 2
    rw [decide_eq_false h]
    simp

theorem order_eq_key {x y : Nat} (hx : val .f32 x = some x) (hy : val .f32 y = some y) : FloatKind.f32.format.order x y = some .eq ↔ key single x = key single y := by
  rw [order_key .f32 ((nn_iff .f32 x).1 hx) ((nn_iff .f32 y).1 hy)]
  show some (compare (key single x) (key single y)) = some Ordering.eq ↔ _
  rw [Option.some.injEq, Int.compare_eq_eq]

theorem W_sgn (x : Nat) (h : rung single x ≤ single.infRung) : sgn double (W x) = sgn single x := by
  rcases Nat.lt_or_ge (rung single x) single.infRung with h' | h'
  · exact (W_fin h').2.1
  · exact (W_inf (by omega)).2

/-- The same value. -/
def sameV (X Y : Option Nat) : Bool := decide (X = Y)

theorem impl_SameNumber (x y : Nat) (hx : x < 4294967296) (hy : y < 4294967296) (w : World) :
    Calls Try.prog 26 #[.float .f32 x, .float .f32 y] w fun e w' => e = .returned (.bool (sameV (val .f32 x) (val .f32 y))) ∧ ∃ n, w' = w.drewN n := by
  rcases val_cases .f32 x with h | h <;> rcases val_cases .f32 y with h' | h'
  · have h1 := order_self h
    have h2 := order_self h'
    by_cases he : FloatKind.f32.format.order x y = some .eq
    · go_enter Try.func26, Try.ntmps26
      go_wp2_with (first | (refine wpList_widen rfl _ _ _ rfl _ rfl (by kernel_rfl) (by kernel_rfl) ?_; intro r n hr; have hlt : r < 18446744073709551616 := hr.lt) | (go_at_call 32; refine (math_Signbit _ (by assumption) _).mono ?_; rintro e w' ⟨rfl, rfl⟩))
      rename_i r1 n1 hr1 hlt1
      go_ret
      refine ⟨?_, _, rfl⟩
      show Ending.returned (.bool (decide (9223372036854775808 ≤ r1) == decide (9223372036854775808 ≤ r))) = _
      have e1 := wid_some h hr1
      have e2 := wid_some h' hr
      rw [← (f64_split hlt1).2, ← (f64_split hlt).2, e1, e2, W_sgn x ((nn_iff .f32 x).1 h), W_sgn y ((nn_iff .f32 y).1 h'), h, h']
      have hk := (order_eq_key h h').1 he
      congr 2
      rw [Bool.eq_iff_iff]
      simp only [beq_iff_eq, sameV, decide_eq_true_eq, Option.some.injEq]
      constructor
      · intro hs
        refine f32_ext hx hy ?_ hs
        unfold key at hk
        rw [hs] at hk
        split at hk <;> omega
      · intro hs; rw [hs]
    · have he' : (FloatKind.f32.format.order x y == some .eq) = false := by simpa using he
      go_enter Try.func26, Try.ntmps26
      go_wp2
      go_ret
      refine ⟨?_, 0, rfl⟩
      rw [h, h']
      have : x ≠ y := fun hxy => he (by rw [← hxy]; exact h1)
      simp [sameV, this]
  · have h1 := order_self h
    have h2 := order_nan y h'
    go_enter Try.func26, Try.ntmps26
    go_wp2
    go_ret
    refine ⟨?_, 0, rfl⟩
    rw [h, h']; rfl
  · have h1 := order_nan x h
    have h2 := order_self h'
    go_enter Try.func26, Try.ntmps26
    go_wp2
    go_ret
    refine ⟨?_, 0, rfl⟩
    rw [h, h']; rfl
  · have h1 := order_nan x h
    have h2 := order_nan y h'
    go_enter Try.func26, Try.ntmps26
    go_wp2
    go_ret
    refine ⟨?_, 0, rfl⟩
    rw [h, h']; rfl

theorem bitsV_inj {x y : Nat} : (bitsV (val .f32 x) == bitsV (val .f32 y)) = sameV (val .f32 x) (val .f32 y) := by
  have hne : ∀ z, val .f32 z = some z → (bitsV (some z) == 2143289344) = false := by
    intro z hz
    rw [val32] at hz
    split at hz
    · simp only [bitsV, beq_eq_false_iff_ne, ne_eq]; omega
    · cases hz
  rcases val_cases .f32 x with h | h <;> rcases val_cases .f32 y with h' | h'
  · rw [h, h', Bool.eq_iff_iff]; simp [bitsV, sameV]; omega
  · rw [h, h']; rw [show bitsV none = 2143289344 from rfl, hne x h]; rfl
  · rw [h, h']; rw [show bitsV none = 2143289344 from rfl]
    have := hne y h'
    rw [beq_eq_false_iff_ne] at this
    rw [show ((2143289344 : Int) == bitsV (some y)) = false by rw [beq_eq_false_iff_ne]; exact fun hh => this hh.symm]; rfl
  · rw [h, h']; rfl

theorem spec_l01Same (x y : Nat) (hx : x < 4294967296) (hy : y < 4294967296) (w : World) :
    Calls Try.prog 31 #[.float .f32 x, .float .f32 y] w fun e w' => e = .returned (.bool (sameV (val .f32 x) (val .f32 y))) ∧ w' = w := by
  go_enter Try.func31, Try.ntmps31
  go_wp2_with (go_at_call 33; refine (spec_l01Bits _ (by assumption) _).mono ?_; rintro e w' ⟨rfl, rfl⟩)
  go_ret
  refine ⟨?_, rfl⟩
  rw [← bitsV_inj]; rfl

end Go.Proofs.Ytmbfdpplkbdpiac
