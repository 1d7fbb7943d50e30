/-
  Contracts and walks: NextUp, NextDown, FlushNumber on both sides.
-/
import Derived.Test.YtmbfdpplkbdpiabA4
import Derived.Outline
namespace Go.Proofs.Ytmbfdpplkbdpiab
open Fl Ieee Go.RowKit
set_option linter.unusedVariables false

/-- The next greater number. -/
def nextV : Option Nat → Option Nat
  | none => none
  | some b => if b = 2139095040 then some b else if b % 2147483648 = 0 then some 1 else if b < 2147483648 then some (b + 1) else some (b - 1)

theorem order_c {x : Nat} (h : val .f32 x = some x) (c : Nat) (hc : c ≤ 2139095040) : FloatKind.f32.format.order x c = some (compare (key single x) (c : Int)) := by
  have e : rung single c = c := by show c % 2147483648 = c; omega
  rw [order_key .f32 ((nn_iff .f32 x).1 h) (by show rung single c ≤ _; rw [e]; exact hc)]
  have : key single c = (c : Int) := by
    unfold key
    rw [(f32_split (by omega)).2, e, decide_eq_false (by omega)]; rfl
  show some (compare (key single x) (key single c)) = _
  rw [this]

theorem key_cases {x : Nat} (hx : x < 4294967296) : key single x = if x < 2147483648 then (x : Int) else (2147483648 : Int) - x := by
  unfold key
  rw [(f32_split hx).1, (f32_split hx).2]
  by_cases h : x < 2147483648
  · rw [if_pos h, decide_eq_false (by omega)]; simp; omega
  · rw [if_neg h, decide_eq_true (by omega)]; simp; omega

theorem nn_bounds {x : Nat} (h : val .f32 x = some x) (hx : x < 4294967296) : x ≤ 2139095040 ∨ (2147483648 ≤ x ∧ x ≤ 4286578688) := by
  have := (nn_iff .f32 x).1 h
  rw [show rung FloatKind.f32.format x = x % 2147483648 from rfl, show FloatKind.f32.format.infRung = 2139095040 from rfl] at this
  omega

theorem FR_some {x : Nat} (hx : x < 4294967296) (h : x % 2147483648 ≤ 2139095040) : FR .f32 x (some x) := ⟨hx, by rw [val32, if_pos h]⟩

theorem gt_max {x : Nat} (h : val .f32 x = some x) (hx : x < 4294967296) : (FloatKind.f32.format.order x 2139095039 == some .gt) = decide (x = 2139095040) := by
  have hb := nn_bounds h hx
  rw [order_c h 2139095039 (by decide), key_cases hx, Bool.eq_iff_iff]
  simp only [beq_iff_eq, Option.some.injEq, Int.compare_eq_gt, decide_eq_true_eq]
  split <;> omega

theorem eq_zero {x : Nat} (h : val .f32 x = some x) (hx : x < 4294967296) : (FloatKind.f32.format.order x 0 == some .eq) = decide (x % 2147483648 = 0) := by
  have hb := nn_bounds h hx
  rw [order_c h 0 (by decide), key_cases hx, Bool.eq_iff_iff]
  simp only [beq_iff_eq, Option.some.injEq, Int.compare_eq_eq, decide_eq_true_eq]
  split <;> omega

theorem gt_zero {x : Nat} (h : val .f32 x = some x) (hx : x < 4294967296) : (FloatKind.f32.format.order x 0 == some .gt) = decide (x < 2147483648 ∧ x ≠ 0) := by
  have hb := nn_bounds h hx
  rw [order_c h 0 (by decide), key_cases hx, Bool.eq_iff_iff]
  simp only [beq_iff_eq, Option.some.injEq, Int.compare_eq_gt, decide_eq_true_eq]
  split <;> omega

theorem impl_NextUp (x : Nat) (hx : x < 4294967296) (w : World) : Calls Try.prog 10 #[.float .f32 x] w fun e w' => ∃ r, e = .returned (.float .f32 r) ∧ FR .f32 r (nextV (val .f32 x)) ∧ w' = w := by
  rcases val_cases .f32 x with h | h
  · have h1 := order_self h
    have hb := nn_bounds h hx
    have t1 := gt_max h hx
    have t2 := eq_zero h hx
    have t3 := gt_zero h hx
    by_cases c1 : x = 2139095040
    · rw [decide_eq_true c1] at t1
      have hr : FR .f32 x (nextV (val .f32 x)) := by rw [h]; simp only [nextV]; rw [if_pos c1]; exact FR_some hx (by omega)
      clear t2 t3 hb c1 h
      go_enter Try.func10, Try.ntmps10
      go_wp2
      go_ret
      exact ⟨x, rfl, hr, rfl⟩
    · rw [decide_eq_false c1] at t1
      by_cases c2 : x % 2147483648 = 0
      · rw [decide_eq_true c2] at t2
        have hr : FR .f32 1 (nextV (val .f32 x)) := by rw [h]; simp only [nextV]; rw [if_neg c1, if_pos c2]; exact FR_some (by omega) (by omega)
        clear t3 hb c2 h c1
        go_enter Try.func10, Try.ntmps10
        go_wp2
        go_ret
        exact ⟨1, rfl, hr, rfl⟩
      · rw [decide_eq_false c2] at t2
        by_cases c3 : x < 2147483648
        · rw [decide_eq_true ⟨c3, by omega⟩] at t3
          have hr : FR .f32 (x + 1) (nextV (val .f32 x)) := by rw [h]; simp only [nextV]; rw [if_neg c1, if_neg c2, if_pos c3]; exact FR_some (by omega) (by omega)
          have hlt : x + 1 < 4294967296 := by omega
          clear hb c2 h c1 c3
          go_enter Try.func10, Try.ntmps10
          go_wp2
          go_ret
          exact ⟨x + 1, rfl, hr, rfl⟩
        · rw [decide_eq_false (by omega)] at t3
          have hr : FR .f32 (x - 1) (nextV (val .f32 x)) := by rw [h]; simp only [nextV]; rw [if_neg c1, if_neg c2, if_neg c3]; exact FR_some (by omega) (by omega)
          have hlt : 1 ≤ x := by omega
          clear hb c2 h c1 c3
          go_enter Try.func10, Try.ntmps10
          go_wp2
          go_ret
          exact ⟨x - 1, by simp, hr, rfl⟩
  · have h1 := order_nan x h
    have hr : FR .f32 x (nextV (val .f32 x)) := by rw [h]; exact ⟨hx, h⟩
    clear h
    go_enter Try.func10, Try.ntmps10
    go_wp2
    go_ret
    exact ⟨x, rfl, hr, rfl⟩

theorem spec_l01Next (x : Nat) (hx : x < 4294967296) (w : World) : Calls Try.prog 22 #[.float .f32 x] w fun e w' => ∃ r, e = .returned (.float .f32 r) ∧ FR .f32 r (nextV (val .f32 x)) ∧ w' = w := by
  rcases val_cases .f32 x with h | h
  · have h1 := order_self h
    have hb := nn_bounds h hx
    have t2 := eq_zero h hx
    have t3 := gt_zero h hx
    have hbv : bitsV (val .f32 x) = (x : Int) := by rw [h]; rfl
    by_cases c1 : x = 2139095040
    · have hr : FR .f32 x (nextV (val .f32 x)) := by rw [h]; simp only [nextV]; rw [if_pos c1]; exact FR_some hx (by omega)
      have t1 : ((x : Int) == 2139095040) = true := by simp; omega
      clear t2 t3 hb h
      clear c1
      go_enter Try.func22, Try.ntmps22
      go_wp2_with (first | (go_at_call 38; refine (spec_l01Bits _ hx _).mono ?_; rintro e w' ⟨rfl, rfl⟩) | go_in)
      go_ret
      exact ⟨x, rfl, hr, rfl⟩
    · have t1 : ((x : Int) == 2139095040) = false := by simp; omega
      by_cases c2 : x % 2147483648 = 0
      · rw [decide_eq_true c2] at t2
        have hr : FR .f32 1 (nextV (val .f32 x)) := by rw [h]; simp only [nextV]; rw [if_neg c1, if_pos c2]; exact FR_some (by omega) (by omega)
        clear t3 hb c2 h c1
        go_enter Try.func22, Try.ntmps22
        go_wp2_with (first | (go_at_call 38; refine (spec_l01Bits _ hx _).mono ?_; rintro e w' ⟨rfl, rfl⟩) | go_in)
        go_ret
        exact ⟨1, rfl, hr, rfl⟩
      · rw [decide_eq_false c2] at t2
        by_cases c3 : x < 2147483648
        · rw [decide_eq_true ⟨c3, by omega⟩] at t3
          have hr : FR .f32 (x + 1) (nextV (val .f32 x)) := by rw [h]; simp only [nextV]; rw [if_neg c1, if_neg c2, if_pos c3]; exact FR_some (by omega) (by omega)
          have hlt : x + 1 < 4294967296 := by omega
          clear hb c2 h c1 c3
          go_enter Try.func22, Try.ntmps22
          go_wp2_with (first | (go_at_call 38; refine (spec_l01Bits _ hx _).mono ?_; rintro e w' ⟨rfl, rfl⟩) | go_in)
          go_ret
          exact ⟨x + 1, rfl, hr, rfl⟩
        · rw [decide_eq_false (by omega)] at t3
          have hr : FR .f32 (x - 1) (nextV (val .f32 x)) := by rw [h]; simp only [nextV]; rw [if_neg c1, if_neg c2, if_neg c3]; exact FR_some (by omega) (by omega)
          have hlt : 1 ≤ x := by omega
          clear hb c2 h c1 c3
          go_enter Try.func22, Try.ntmps22
          go_wp2_with (first | (go_at_call 38; refine (spec_l01Bits _ hx _).mono ?_; rintro e w' ⟨rfl, rfl⟩) | go_in)
          go_ret
          exact ⟨x - 1, by simp, hr, rfl⟩
  · have h1 := order_nan x h
    have hr : FR .f32 x (nextV (val .f32 x)) := by rw [h]; exact ⟨hx, h⟩
    clear h
    go_enter Try.func22, Try.ntmps22
    go_wp2_with (first | (go_at_call 38; refine (spec_l01Bits _ hx _).mono ?_; rintro e w' ⟨rfl, rfl⟩) | go_in)
    go_ret
    exact ⟨x, rfl, hr, rfl⟩

theorem spec_NextUp (x : Nat) (hx : x < 4294967296) (w : World) : Calls Try.prog 9 #[.float .f32 x] w fun e w' => ∃ r, e = .returned (.float .f32 r) ∧ FR .f32 r (nextV (val .f32 x)) ∧ w' = w := by
  go_enter Try.func9, Try.ntmps9
  go_wp2_with (go_at_call 22; refine (spec_l01Next _ hx _).mono ?_; rintro e w' ⟨r, rfl, hr, rfl⟩)
  go_ret
  exact ⟨r, rfl, hr, rfl⟩

theorem fnExactNextUp_walk (w : World) (a0 : Nat) (w0 : a0 < 2 ^ FloatKind.f32.format.width) :
    Calls Try.prog 3 #[.float .f32 a0] w fun e w' => e = .returned (.bool true) ∧ Below w.heap.size w w' := by
  have hx : a0 < 4294967296 := w0
  clear w0
  go_enter Try.func3, Try.ntmps3
  go_wp2_with (first | (go_at_call 9; refine (spec_NextUp _ hx _).mono ?_; rintro e w' ⟨r1, rfl, hr1, rfl⟩) | (go_at_call 10; refine (impl_NextUp _ hx _).mono ?_; rintro e w' ⟨r2, rfl, hr2, rfl⟩) | (refine wpList_widen rfl _ _ _ rfl _ rfl (by kernel_rfl) (by kernel_rfl) ?_; intro r n hr; (try rw [hr1.val] at hr); (try rw [hr2.val] at hr)) | (go_at_call 11; refine (sameFloat_FR _ _ _ (by assumption) (by assumption) _).mono ?_; rintro e w' ⟨rfl, n, rfl⟩))
  go_ret
  exact ⟨rfl, below_drewN2 _ _⟩

/-! ### NextDown -/

/-- Negated. -/
def negV32 (X : Option Nat) : Option Nat := X.map (· ^^^ 2147483648)

theorem neg_bits (x : Nat) (hx : x < 4294967296) : (x ^^^ 2147483648) < 4294967296 ∧ (x ^^^ 2147483648) % 2147483648 = x % 2147483648 := by
  have h1 : x ^^^ 2147483648 < 2 ^ 32 := Nat.xor_lt_two_pow (by omega) (by decide)
  refine ⟨h1, ?_⟩
  show (x ^^^ 2 ^ 31) % 2 ^ 31 = x % 2 ^ 31
  rw [Nat.xor_mod_two_pow]
  simp

theorem FR_neg {x : Nat} {X : Option Nat} (h : FR .f32 x X) : FR .f32 (x ^^^ 2147483648) (negV32 X) := by
  have hx : x < 4294967296 := h.lt
  have hb := neg_bits x hx
  refine ⟨hb.1, ?_⟩
  rw [← h.val, val32, val32, hb.2]
  split <;> rfl

theorem impl_NextDown (x : Nat) (hx : x < 4294967296) (w : World) : Calls Try.prog 15 #[.float .f32 x] w fun e w' => ∃ r, e = .returned (.float .f32 r) ∧ FR .f32 r (negV32 (nextV (negV32 (val .f32 x)))) ∧ w' = w := by
  have hn := FR_neg (FR.self (k := .f32) (r := x) hx)
  have hlt : (x ^^^ 2147483648) < 4294967296 := hn.lt
  go_enter Try.func15, Try.ntmps15
  go_wp2_with (go_at_call 10; refine (impl_NextUp _ hlt _).mono ?_; rintro e w' ⟨r, rfl, hr, rfl⟩)
  go_ret
  exact ⟨_, rfl, by rw [hn.val] at hr; exact FR_neg hr, rfl⟩

theorem spec_NextDown (x : Nat) (hx : x < 4294967296) (w : World) : Calls Try.prog 14 #[.float .f32 x] w fun e w' => ∃ r, e = .returned (.float .f32 r) ∧ FR .f32 r (negV32 (nextV (negV32 (val .f32 x)))) ∧ w' = w := by
  have hn := FR_neg (FR.self (k := .f32) (r := x) hx)
  have hlt : (x ^^^ 2147483648) < 4294967296 := hn.lt
  go_enter Try.func14, Try.ntmps14
  go_wp2_with (go_at_call 22; refine (spec_l01Next _ hlt _).mono ?_; rintro e w' ⟨r, rfl, hr, rfl⟩)
  go_ret
  exact ⟨_, rfl, by rw [hn.val] at hr; exact FR_neg hr, rfl⟩

theorem fnExactNextDown_walk (w : World) (a0 : Nat) (w0 : a0 < 2 ^ FloatKind.f32.format.width) :
    Calls Try.prog 5 #[.float .f32 a0] w fun e w' => e = .returned (.bool true) ∧ Below w.heap.size w w' := by
  have hx : a0 < 4294967296 := w0
  clear w0
  go_enter Try.func5, Try.ntmps5
  go_wp2_with (first | (go_at_call 14; refine (spec_NextDown _ hx _).mono ?_; rintro e w' ⟨r1, rfl, hr1, rfl⟩) | (go_at_call 15; refine (impl_NextDown _ hx _).mono ?_; rintro e w' ⟨r2, rfl, hr2, rfl⟩) | (refine wpList_widen rfl _ _ _ rfl _ rfl (by kernel_rfl) (by kernel_rfl) ?_; intro r n hr; (try rw [hr1.val] at hr); (try rw [hr2.val] at hr)) | (go_at_call 11; refine (sameFloat_FR _ _ _ (by assumption) (by assumption) _).mono ?_; rintro e w' ⟨rfl, n, rfl⟩))
  go_ret
  exact ⟨rfl, below_drewN2 _ _⟩

/-! ### FlushNumber -/

/-- A subnormal number's zero; any other as it is. -/
def flushV : Option Nat → Option Nat
  | none => none
  | some b => if b % 2147483648 < 8388608 then some (b / 2147483648 * 2147483648) else some b

theorem math_Copysign0 (y : Nat) (hy : y < 18446744073709551616) (w : World) : Calls Try.prog 27 #[.float .f64 0, .float .f64 y] w fun e w' => e = .returned (.float .f64 (y / 9223372036854775808 * 9223372036854775808)) ∧ w' = w := by
  have h1 := sign_bits64 y hy
  have h2 : bits .andNot .u64 0 9223372036854775808 = 0 := by decide +kernel
  have h3 : bits .or .u64 0 ((y : Int) / 9223372036854775808 * 9223372036854775808) = (y : Int) / 9223372036854775808 * 9223372036854775808 := by
    have := u64_or_nat 0 (y / 9223372036854775808 * 9223372036854775808) (by decide) (by omega)
    simpa using this
  go_enter Try.func27, Try.ntmps27
  go_wp2
  go_ret
  exact ⟨rfl, rfl⟩

theorem N_zero : N 0 = 0 := by decide +kernel
theorem N_nzero : N 9223372036854775808 = 2147483648 := by decide +kernel
theorem narOk_zero : NarOk (val .f64 0) := by
  rw [show val .f64 0 = some 0 by rw [val64, if_pos (by decide)]]
  exact NarOk.of_le (by decide +kernel)
theorem narOk_nzero : NarOk (val .f64 9223372036854775808) := by
  rw [show val .f64 9223372036854775808 = some 9223372036854775808 by rw [val64, if_pos (by decide)]]
  exact NarOk.of_le (by decide +kernel)

theorem zeroOf {r : Nat} (hr : r < 18446744073709551616) : NarOk (val .f64 (r / 9223372036854775808 * 9223372036854775808)) ∧ nar (val .f64 (r / 9223372036854775808 * 9223372036854775808)) = some (r / 9223372036854775808 * 2147483648) := by
  by_cases h : 9223372036854775808 ≤ r
  · rw [show r / 9223372036854775808 = 1 by omega, show val .f64 (1 * 9223372036854775808) = some 9223372036854775808 by rw [val64, if_pos (by decide)]]
    refine ⟨by have := narOk_nzero; rwa [show val .f64 9223372036854775808 = some 9223372036854775808 by rw [val64, if_pos (by decide)]] at this, ?_⟩
    show some (N 9223372036854775808) = _
    rw [N_nzero]
  · rw [show r / 9223372036854775808 = 0 by omega, show val .f64 (0 * 9223372036854775808) = some 0 by rw [val64, if_pos (by decide)]]
    refine ⟨by have := narOk_zero; rwa [show val .f64 0 = some 0 by rw [val64, if_pos (by decide)]] at this, ?_⟩
    show some (N 0) = _
    rw [N_zero]

theorem W_sign {x : Nat} (h : val .f32 x = some x) (hx : x < 4294967296) {r : Nat} (hr : FR .f64 r (wid (val .f32 x))) : r / 9223372036854775808 = x / 2147483648 := by
  have hlt : r < 18446744073709551616 := hr.lt
  have e := wid_some h hr
  have hnn := (nn_iff .f32 x).1 h
  have hs : sgn double (W x) = sgn single x := by
    rcases Nat.lt_or_ge (rung single x) single.infRung with h' | h'
    · exact (W_fin h').2.1
    · have : rung single x ≤ single.infRung := hnn
      exact (W_inf (by omega)).2
  rw [← e, (f64_split hlt).2, (f32_split hx).2, decide_eq_decide] at hs
  omega

theorem impl_FlushNumber (x : Nat) (hx : x < 4294967296) (w : World) : Calls Try.prog 13 #[.float .f32 x] w fun e w' => ∃ r, e = .returned (.float .f32 r) ∧ FR .f32 r (flushV (val .f32 x)) ∧ ∃ n, w' = w.drewN n := by
  by_cases hs : subV (val .f32 x) = true
  · have hv : val .f32 x = some x := by
      rcases val_cases .f32 x with h | h
      · exact h
      · rw [h] at hs; cases hs
    have hsb : x % 2147483648 < 8388608 := by rw [hv] at hs; simp [subV] at hs; exact hs.2
    have Hv : Hid (val .f32 x = some x) := hv
    clear hv
    go_enter Try.func13, Try.ntmps13
    go_wp2_with (first | (go_at_call 26; refine (impl_IsSubnormal _ hx _).mono ?_; rintro e w' ⟨rfl, n, rfl⟩) | (refine wpList_widen rfl _ _ _ rfl _ rfl (by kernel_rfl) (by kernel_rfl) ?_; intro r n1 hr; have hlt : r < 18446744073709551616 := hr.lt) | (go_at_call 27; refine (math_Copysign0 _ hlt _).mono ?_; rintro e w' ⟨rfl, rfl⟩) | (refine wpList_narrow rfl _ _ _ rfl _ rfl (by kernel_rfl) (by kernel_rfl) (zeroOf hlt).1 ?_; intro q n2 hq))
    go_ret
    refine ⟨q, rfl, ?_, _, rfl⟩
    rw [(zeroOf hlt).2] at hq
    rw [Hv.out]
    simp only [flushV]
    rw [if_pos hsb, ← W_sign Hv.out hx hr]
    exact hq
  · have hs' : subV (val .f32 x) = false := by simpa using hs
    clear hs
    go_enter Try.func13, Try.ntmps13
    go_wp2_with (go_at_call 26; refine (impl_IsSubnormal _ hx _).mono ?_; rintro e w' ⟨rfl, n, rfl⟩)
    go_ret
    refine ⟨x, rfl, ⟨hx, ?_⟩, _, rfl⟩
    rcases val_cases .f32 x with h | h
    · rw [h] at hs' ⊢
      simp only [subV, decide_eq_false_iff_not] at hs'
      simp only [flushV]
      split
      · congr 1; omega
      · rfl
    · rw [h]; rfl

theorem spec_l01Flush (x : Nat) (hx : x < 4294967296) (w : World) : Calls Try.prog 25 #[.float .f32 x] w fun e w' => ∃ r, e = .returned (.float .f32 r) ∧ FR .f32 r (flushV (val .f32 x)) ∧ w' = w := by
  rcases val_cases .f32 x with h | h
  · have hbv : bitsV (val .f32 x) = (x : Int) := by rw [h]; rfl
    have hb := nn_bounds h hx
    have he := exp_bits x hx
    have hsg := sign_bits x hx
    by_cases hc : x % 2147483648 < 8388608
    · have he0 : bits .and .i64 (x : Int) 2139095040 = 0 := by rw [he]; omega
      have hsg' : bits .and .i64 (x : Int) 2147483648 = (x : Int) / 2147483648 * 2147483648 := by rw [hsg]; omega
      have hq0 : (0 : Int) ≤ (x : Int) / 2147483648 * 2147483648 := by omega
      have hq1 : (x : Int) / 2147483648 * 2147483648 < 4294967296 := by omega
      have hf : FR .f32 (x / 2147483648 * 2147483648) (flushV (val .f32 x)) := by rw [h]; simp only [flushV]; rw [if_pos hc]; exact FR_some (by omega) (by omega)
      clear he hsg hb h hc
      go_enter Try.func25, Try.ntmps25
      go_wp2_with (first | (go_at_call 38; refine (spec_l01Bits _ hx _).mono ?_; rintro e w' ⟨rfl, rfl⟩) | go_in)
      go_ret
      exact ⟨x / 2147483648 * 2147483648, rfl, hf, rfl⟩
    · have he0 : (bits .and .i64 (x : Int) 2139095040 == 0) = false := by rw [he]; simp; omega
      have hf : FR .f32 x (flushV (val .f32 x)) := by rw [h]; simp only [flushV]; rw [if_neg hc]; exact FR_some hx (by omega)
      clear he hsg hb h hc
      go_enter Try.func25, Try.ntmps25
      go_wp2_with (first | (go_at_call 38; refine (spec_l01Bits _ hx _).mono ?_; rintro e w' ⟨rfl, rfl⟩) | go_in)
      go_ret
      exact ⟨x, rfl, hf, rfl⟩
  · have hbv : bitsV (val .f32 x) = 2143289344 := by rw [h]; rfl
    have he0 : bits .and .i64 2143289344 2139095040 = 2139095040 := by decide +kernel
    have hf : FR .f32 x (flushV (val .f32 x)) := by rw [h]; exact ⟨hx, h⟩
    clear h
    go_enter Try.func25, Try.ntmps25
    go_wp2_with (first | (go_at_call 38; refine (spec_l01Bits _ hx _).mono ?_; rintro e w' ⟨rfl, rfl⟩) | go_in)
    go_ret
    exact ⟨x, rfl, hf, rfl⟩

theorem spec_FlushNumber (x : Nat) (hx : x < 4294967296) (w : World) : Calls Try.prog 12 #[.float .f32 x] w fun e w' => ∃ r, e = .returned (.float .f32 r) ∧ FR .f32 r (flushV (val .f32 x)) ∧ w' = w := by
  go_enter Try.func12, Try.ntmps12
  go_wp2_with (go_at_call 25; refine (spec_l01Flush _ hx _).mono ?_; rintro e w' ⟨r, rfl, hr, rfl⟩)
  go_ret
  exact ⟨r, rfl, hr, rfl⟩

theorem fnExactFlushNumber_walk (w : World) (a0 : Nat) (w0 : a0 < 2 ^ FloatKind.f32.format.width) :
    Calls Try.prog 4 #[.float .f32 a0] w fun e w' => e = .returned (.bool true) ∧ Below w.heap.size w w' := by
  have hx : a0 < 4294967296 := w0
  clear w0
  go_enter Try.func4, Try.ntmps4
  go_wp2_with (first | (go_at_call 12; refine (spec_FlushNumber _ hx _).mono ?_; rintro e w' ⟨r1, rfl, hr1, rfl⟩) | (go_at_call 13; refine (impl_FlushNumber _ hx _).mono ?_; rintro e w' ⟨r2, rfl, hr2, m, rfl⟩) | (refine wpList_widen rfl _ _ _ rfl _ rfl (by kernel_rfl) (by kernel_rfl) ?_; intro r n hr; (try rw [hr1.val] at hr); (try rw [hr2.val] at hr)) | (go_at_call 11; refine (sameFloat_FR _ _ _ (by assumption) (by assumption) _).mono ?_; rintro e w' ⟨rfl, n, rfl⟩))
  go_ret
  exact ⟨rfl, below_drewN2 _ _⟩

end Go.Proofs.Ytmbfdpplkbdpiab
