/-
  Contracts and the law: LogNumber on both sides.
-/
import Derived.Test.YtmbfdpplkbdpiabB6
namespace Go.Proofs.Ytmbfdpplkbdpiab
open Fl Ieee Go.RowKit
set_option linter.unusedVariables false

/-- The natural logarithm that the program computes. -/
def logNumV (X : Option Nat) : Option Nat :=
  match X with
  | none => none
  | some x => if rung single x = 0 then some 4286578688 else if sgn single x then none else if rung single x = 2139095040 then some 2139095040 else nar (logV (W x))

/-- How a number stands to zero. -/
theorem zero_tests (k : FloatKind) {x : Nat} (h : rung k.format x ≤ k.format.infRung) :
    (k.format.order x 0 == some .eq) = decide (rung k.format x = 0) ∧ (k.format.order x 0 == some .lt) = decide (sgn k.format x = true ∧ rung k.format x ≠ 0) ∧ (k.format.order x x != some .eq) = false := by
  have h0 : rung k.format 0 = 0 := by unfold rung; simp
  have e2 : key k.format 0 = 0 := by unfold key; rw [h0]; split <;> rfl
  rw [order_key k h (by rw [h0]; exact Nat.zero_le _), order_key k h h, e2]
  unfold key
  generalize rung k.format x = r
  refine ⟨?_, ?_, by simp⟩
  · rw [Bool.eq_iff_iff]
    simp only [beq_iff_eq, Option.some.injEq, Int.compare_eq_eq, decide_eq_true_eq]
    cases sgn k.format x <;> simp
  · rw [Bool.eq_iff_iff]
    simp only [beq_iff_eq, Option.some.injEq, Int.compare_eq_lt, decide_eq_true_eq]
    cases sgn k.format x <;> simp <;> omega

theorem wid_pos {x r : Nat} (hv : val .f32 x = some x) (hr : FR .f64 r (wid (val .f32 x))) (hs : sgn single x = false) (h0 : 0 < rung single x) (h1 : rung single x < single.infRung) :
    r = W x ∧ 3936146074321813504 ≤ r ∧ r ≤ 5183643170566569984 := by
  have e := (FR_wid hv hr).2
  have hW := W_fin h1
  rw [← e] at hW
  have hlt : r < 18446744073709551616 := hr.lt
  have hsp := f64_split' hlt
  have hn : r < 9223372036854775808 := by
    have h2 := hsp.2
    rw [hW.2.1, hs] at h2
    rcases Nat.lt_or_ge r 9223372036854775808 with h | h
    · exact h
    · rw [decide_eq_true h] at h2; cases h2
  have hr' : rung double r = r := by rw [hsp.1]; omega
  rw [hr'] at hW
  refine ⟨e, (mg_le_iff double).1 ?_, (mg_le_iff double).1 ?_⟩
  · rw [hW.1]
    refine Nat.le_trans ?_ (Nat.mul_le_mul_right _ ((mg_le_iff single).2 (show 1 ≤ rung single x from h0)))
    decide +kernel
  · rw [hW.1]
    refine Nat.le_trans (Nat.mul_le_mul_right _ ((mg_le_iff single).2 (show rung single x ≤ 2139095039 from by have : single.infRung = 2139095040 := rfl; omega))) ?_
    decide +kernel

theorem wid_zero {x r : Nat} (hv : val .f32 x = some x) (hr : FR .f64 r (wid (val .f32 x))) (h0 : rung single x = 0) : rung double r = 0 := by
  have e := (FR_wid hv hr).2
  have hW := W_fin (b := x) (by rw [h0]; decide)
  rw [← e] at hW
  have : mg double (rung double r) ≤ mg double 0 := by
    rw [hW.1, h0]; decide +kernel
  have := (mg_le_iff double).1 this
  omega

theorem math_Inf_neg (w : World) : Calls Try.prog 36 #[.int .i64 (-1)] w fun e w' => e = .returned (.float .f64 18442240474082181120) ∧ ∃ n, w' = w.drewN n := by
  go_enter Try.func36, Try.ntmps36
  go_wp2
  go_ret
  exact ⟨rfl, 0, rfl⟩

theorem nar_neginf : val .f64 18442240474082181120 = some 18442240474082181120 ∧ NarOk (some 18442240474082181120) ∧ nar (some 18442240474082181120) = some 4286578688 := by
  refine ⟨(nn_iff .f64 _).2 (by decide), fun b h => ?_, by show some (N _) = _; decide +kernel⟩
  cases h; left; decide

theorem nar_posinf {x r : Nat} (hv : val .f32 x = some x) (hr : FR .f64 r (wid (val .f32 x))) (hs : sgn single x = false) (h1 : rung single x = 2139095040) : r = 9218868437227405312 := by
  have e := (FR_wid hv hr).2
  have hW := W_inf (b := x) h1
  rw [← e] at hW
  have hlt : r < 18446744073709551616 := hr.lt
  have hsp := f64_split' hlt
  rw [hW.1, hW.2, hs] at hsp
  have h2 : ¬ 9223372036854775808 ≤ r := of_decide_eq_false hsp.2.symm
  have h3 : r % 9223372036854775808 = 9218868437227405312 := hsp.1.symm
  omega

theorem f32_zero_inf (x : Nat) (hx : x < 4294967296) (hs : sgn single x = false) (h1 : rung single x = 2139095040) : x = 2139095040 := by
  have e : rung single x = x % 2147483648 := rfl
  have e2 : sgn single x = decide (x / 2147483648 % 2 = 1) := rfl
  rw [hs] at e2
  have h2 := of_decide_eq_false e2.symm
  omega

/-- The kinds of number, each with what LogNumber gives for it. -/
theorem logNumV_nan {x : Nat} (hv : val .f32 x = none) : Hid (logNumV (val .f32 x) = none) := by rw [hv]; exact rfl
theorem logNumV_zero {x : Nat} (hv : val .f32 x = some x) (h : rung single x = 0) : Hid (logNumV (val .f32 x) = some 4286578688) := by
  rw [hv]; show (if _ then _ else _) = _; rw [if_pos h]
theorem logNumV_neg {x : Nat} (hv : val .f32 x = some x) (h : ¬ rung single x = 0) (hs : sgn single x = true) : Hid (logNumV (val .f32 x) = none) := by
  rw [hv]; show (if _ then _ else _) = _; rw [if_neg h, if_pos hs]
theorem logNumV_inf {x : Nat} (hv : val .f32 x = some x) (h : ¬ rung single x = 0) (hs : sgn single x = false) (hi : rung single x = 2139095040) : Hid (logNumV (val .f32 x) = some 2139095040) := by
  rw [hv]; show (if _ then _ else _) = _; rw [if_neg h, hs, if_neg (by decide), if_pos hi]
theorem logNumV_pos {x : Nat} (hv : val .f32 x = some x) (h : ¬ rung single x = 0) (hs : sgn single x = false) (hi : ¬ rung single x = 2139095040) : Hid (logNumV (val .f32 x) = nar (logV (W x))) := by
  rw [hv]; show (if _ then _ else _) = _; rw [if_neg h, hs, if_neg (by decide), if_neg hi]

theorem pow_zero_of {a : Nat} (k : Nat) (h : a * 2 ^ k = 0) : a = 0 := by
  rcases Nat.mul_eq_zero.1 h with h | h
  · exact h
  · exact absurd h (Nat.pos_iff_ne_zero.1 (Nat.two_pow_pos _))

theorem wid_neg {x r : Nat} (hv : val .f32 x = some x) (hr : FR .f64 r (wid (val .f32 x))) (hs : sgn single x = true) (h0 : 0 < rung single x) : sgn double r = true ∧ rung double r ≠ 0 := by
  have e := (FR_wid hv hr).2
  have hnn : rung single x ≤ 2139095040 := (nn_iff .f32 x).1 hv
  by_cases hi : rung single x = 2139095040
  · have hW := W_inf (b := x) hi
    rw [← e] at hW
    refine ⟨by rw [hW.2, hs], ?_⟩
    rw [hW.1]; decide
  · have hW := W_fin (b := x) (by show rung single x < 2139095040; omega)
    rw [← e] at hW
    refine ⟨by rw [hW.2.1, hs], fun h => ?_⟩
    have h1 := hW.1
    rw [h, show mg double 0 = 0 from by decide +kernel] at h1
    have h2 : 0 < mg single (rung single x) := mg_pos single h0
    have h3 := pow_zero_of 925 h1.symm
    omega

theorem posinf : val .f64 9218868437227405312 = some 9218868437227405312 ∧ NarOk (some 9218868437227405312) ∧ nar (some 9218868437227405312) = some 2139095040 := by
  refine ⟨(nn_iff .f64 _).2 (by decide), fun b h => ?_, by show some (N _) = _; decide +kernel⟩
  cases h; left; decide

theorem spec_l01LogWide_nan (y : Nat) (h : val .f64 y = none) (w : World) : Calls Try.prog 46 #[.float .f64 y] w fun e w' => e = .returned (.float .f64 9221120237041090561) ∧ ∃ n, w' = w.drewN n := by
  have z1 := order_nan y h
  clear h
  go_enter Try.func46, Try.ntmps46
  go_wp2_with (first | (go_at_call 30; refine (math_NaN _).mono ?_; rintro e w' ⟨rfl, rfl⟩) | fail)
  go_ret
  exact ⟨rfl, 0, rfl⟩

theorem spec_l01LogWide_neg (y : Nat) (h1 : (FloatKind.f64.format.order y 0 == some .lt) = true) (h2 : (FloatKind.f64.format.order y y != some .eq) = false) (w : World) : Calls Try.prog 46 #[.float .f64 y] w fun e w' => e = .returned (.float .f64 9221120237041090561) ∧ ∃ n, w' = w.drewN n := by
  go_enter Try.func46, Try.ntmps46
  go_wp2_with (first | (go_at_call 30; refine (math_NaN _).mono ?_; rintro e w' ⟨rfl, rfl⟩) | fail)
  go_ret
  exact ⟨rfl, 0, rfl⟩

theorem spec_l01LogWide_zero (y : Nat) (h : val .f64 y = some y) (h0 : rung double y = 0) (w : World) : Calls Try.prog 46 #[.float .f64 y] w fun e w' => e = .returned (.float .f64 18442240474082181120) ∧ ∃ n, w' = w.drewN n := by
  obtain ⟨z1, z2, z3⟩ := zero_tests .f64 (x := y) ((nn_iff .f64 y).1 h)
  rw [show rung FloatKind.f64.format y = 0 from h0] at z1 z2
  simp at z1 z2
  have z1' : (FloatKind.f64.format.order y 0 == some .eq) = true := by rw [z1]; rfl
  have z2' : (FloatKind.f64.format.order y 0 == some .lt) = false := by rw [z1]; rfl
  clear h h0 z1 z2
  go_enter Try.func46, Try.ntmps46
  go_wp2_with (first | (go_at_call 36; refine (math_Inf_neg _).mono ?_; rintro e w' ⟨rfl, nf, rfl⟩) | fail)
  go_ret
  exact ⟨rfl, _, rfl⟩

theorem spec_l01LogWide_inf (w : World) : Calls Try.prog 46 #[.float .f64 9218868437227405312] w fun e w' => e = .returned (.float .f64 9218868437227405312) ∧ ∃ n, w' = w.drewN n := by
  have z1 : (FloatKind.f64.format.order 9218868437227405312 9218868437227405312 != some .eq) = false := by decide +kernel
  have z2 : (FloatKind.f64.format.order 9218868437227405312 0 == some .eq) = false := by decide +kernel
  have z3 : (FloatKind.f64.format.order 9218868437227405312 0 == some .lt) = false := by decide +kernel
  go_enter Try.func46, Try.ntmps46
  go_wp2_with (first | (go_at_call 47; refine (math_IsInf_pos _ (Nat.le_refl _) _).mono ?_; rintro e w' ⟨rfl, nf, rfl⟩) | fail)
  go_ret
  exact ⟨rfl, _, rfl⟩

theorem impl_LogNumber (x : Nat) (hx : x < 4294967296) (w : World) : Calls Try.prog 21 #[.float .f32 x] w fun e w' => ∃ r, e = .returned (.float .f32 r) ∧ FR .f32 r (logNumV (val .f32 x)) ∧ ∃ n, w' = w.drewN n := by
  rcases val_cases .f32 x with hv | hv
  · have hnn : rung single x ≤ 2139095040 := (nn_iff .f32 x).1 hv
    obtain ⟨z1, z2, z3⟩ := zero_tests .f32 (x := x) hnn
    replace z1 : (FloatKind.f32.format.order x 0 == some .eq) = decide (rung single x = 0) := z1
    replace z2 : (FloatKind.f32.format.order x 0 == some .lt) = decide (sgn single x = true ∧ rung single x ≠ 0) := z2
    have hfs := isFin_some hv
    by_cases h0 : rung single x = 0
    · have HG := logNumV_zero hv h0
      have Hv : Hid (val .f32 x = some x) := hv
      have H0 : Hid (rung single x = 0) := h0
      rw [decide_eq_true h0] at z1
      rw [decide_eq_false (fun h => h.2 h0)] at z2
      clear hv hnn h0 hfs
      go_enter Try.func21, Try.ntmps21
      go_wp2_with (first | (go_at_call 36; refine (math_Inf_neg _).mono ?_; rintro e w' ⟨rfl, nf, rfl⟩) | (refine wpList_narrow (o := ⟨some 7, _, _, _, _, _⟩) rfl _ _ _ rfl _ rfl (by kernel_rfl) (by kernel_rfl) (by rw [nar_neginf.1]; exact nar_neginf.2.1) ?_; intro r nr hr) | fail)
      go_ret
      refine ⟨r, rfl, ?_, _, rfl⟩
      rw [nar_neginf.1, nar_neginf.2.2] at hr
      rw [HG.out]; exact hr
    · rw [decide_eq_false h0] at z1
      cases hs : sgn single x
      · rw [decide_eq_false (fun h => by rw [hs] at h; cases h.1)] at z2
        by_cases hi : rung single x = 2139095040
        · have HG := logNumV_inf hv h0 hs hi
          rw [decide_eq_false (by rw [hi]; decide)] at hfs
          have Hv : Hid (val .f32 x = some x) := hv
          have HS : Hid (sgn single x = false) := hs
          have HI : Hid (rung single x = 2139095040) := hi
          have hxe := f32_zero_inf x hx hs hi
          clear hv hnn h0 hs hi
          subst hxe
          go_enter Try.func21, Try.ntmps21
          go_wp2_with (first | (go_at_call 29; refine (impl_IsFinite _ _).mono ?_; rintro e w' ⟨rfl, nf, rfl⟩) | fail)
          go_ret
          refine ⟨2139095040, rfl, ?_, _, rfl⟩
          rw [HG.out]; exact ⟨hx, Hv.out⟩
        · have HG := logNumV_pos hv h0 hs hi
          rw [decide_eq_true (show rung single x < single.infRung from by show rung single x < 2139095040; omega)] at hfs
          have Hv : Hid (val .f32 x = some x) := hv
          have HP : Hid (∀ r, FR .f64 r (wid (val .f32 x)) → r = W x ∧ 3936146074321813504 ≤ r ∧ r ≤ 5183643170566569984) := fun r hr => wid_pos hv hr hs (by omega) (by show rung single x < 2139095040; omega)
          clear hv hnn h0 hs hi
          go_enter Try.func21, Try.ntmps21
          go_wp2_with (first | (go_at_call 29; refine (impl_IsFinite _ _).mono ?_; rintro e w' ⟨rfl, nf, rfl⟩) | (refine wpList_widen (o := ⟨some 24, _, _, _, _, _⟩) rfl _ _ _ rfl _ rfl (by kernel_rfl) (by kernel_rfl) ?_; intro y ny hy) | (go_at_call 37; refine (impl_naturalLog _ (HP.out _ hy).2.1 (HP.out _ hy).2.2 _).mono ?_; rintro e w' ⟨l, rfl, hl, nl, rfl⟩) | (refine wpList_narrow (o := ⟨some 26, _, _, _, _, _⟩) rfl _ _ _ rfl _ rfl (by kernel_rfl) (by kernel_rfl) (by rw [hl.val]; exact logV_ok (HP.out _ hy).2.1 (HP.out _ hy).2.2) ?_; intro r nr hr) | fail)
          go_ret
          refine ⟨r, rfl, ?_, _, rfl⟩
          rw [hl.val, (HP.out _ hy).1] at hr
          rw [HG.out]; exact hr
      · have HG := logNumV_neg hv h0 hs
        rw [decide_eq_true ⟨hs, h0⟩] at z2
        have Hv : Hid (val .f32 x = some x) := hv
        have HN : Hid (∀ r, FR .f64 r (wid (val .f32 x)) → (FloatKind.f64.format.order r 0 == some .lt) = true ∧ (FloatKind.f64.format.order r r != some .eq) = false) := by
          intro r hr
          obtain ⟨_, t2, t3⟩ := zero_tests .f64 (x := r) ((nn_iff .f64 r).1 (FR_wid hv hr).1)
          refine ⟨?_, t3⟩
          rw [t2]
          refine decide_eq_true ?_
          obtain ⟨w1, w2⟩ := wid_neg hv hr hs (by omega)
          exact ⟨w1, w2⟩
        clear hv hnn h0 hs hfs
        clear HN
        go_enter Try.func21, Try.ntmps21
        go_wp2_with (first | (go_at_call 30; refine (math_NaN _).mono ?_; rintro e w' ⟨rfl, rfl⟩) | (refine wpList_narrow (o := ⟨some 17, _, _, _, _, _⟩) rfl _ _ _ rfl _ rfl (by kernel_rfl) (by kernel_rfl) (by rw [nan_val]; exact NarOk.none) ?_; intro r nr hr) | fail)
        go_ret
        refine ⟨r, rfl, ?_, _, rfl⟩
        rw [nan_val] at hr
        rw [HG.out]; exact hr
  · have HG := logNumV_nan hv
    have z1 := order_nan 0 hv
    have z2 := order_nan x hv
    have Hv : Hid (val .f32 x = none) := hv
    clear hv
    go_enter Try.func21, Try.ntmps21
    go_wp2_with (first | (go_at_call 30; refine (math_NaN _).mono ?_; rintro e w' ⟨rfl, rfl⟩) | (refine wpList_narrow (o := ⟨some 17, _, _, _, _, _⟩) rfl _ _ _ rfl _ rfl (by kernel_rfl) (by kernel_rfl) (by rw [nan_val]; exact NarOk.none) ?_; intro r nr hr) | fail)
    go_ret
    refine ⟨r, rfl, ?_, _, rfl⟩
    rw [nan_val] at hr
    rw [HG.out]; exact hr

theorem spec_l01Log (x : Nat) (hx : x < 4294967296) (w : World) : Calls Try.prog 35 #[.float .f32 x] w fun e w' => ∃ r, e = .returned (.float .f32 r) ∧ FR .f32 r (logNumV (val .f32 x)) ∧ ∃ n, w' = w.drewN n := by
  rcases val_cases .f32 x with hv | hv
  · have hnn : rung single x ≤ 2139095040 := (nn_iff .f32 x).1 hv
    obtain ⟨z1, z2, z3⟩ := zero_tests .f32 (x := x) hnn
    replace z1 : (FloatKind.f32.format.order x 0 == some .eq) = decide (rung single x = 0) := z1
    replace z2 : (FloatKind.f32.format.order x 0 == some .lt) = decide (sgn single x = true ∧ rung single x ≠ 0) := z2
    have hfs := isFin_some hv
    by_cases h0 : rung single x = 0
    · have HG := logNumV_zero hv h0
      have Hv : Hid (val .f32 x = some x) := hv
      have H0 : Hid (rung single x = 0) := h0
      rw [decide_eq_true h0] at z1
      rw [decide_eq_false (fun h => h.2 h0)] at z2
      clear hv hnn h0 hfs
      go_enter Try.func35, Try.ntmps35
      go_wp2_with (first | (refine wpList_widen (o := ⟨some 4, _, _, _, _, _⟩) rfl _ _ _ rfl _ rfl (by kernel_rfl) (by kernel_rfl) ?_; intro y ny hy) | (go_at_call 46; refine (spec_l01LogWide_zero _ (FR_wid Hv.out hy).1 (wid_zero Hv.out hy H0.out) _).mono ?_; rintro e w' ⟨rfl, nl, rfl⟩) | (go_at_call 42; refine (spec_l01Narrow _ (by rw [nar_neginf.1]; exact nar_neginf.2.1) _).mono ?_; rintro e w' ⟨r, rfl, hr, nr, rfl⟩) | fail)
      go_ret
      refine ⟨r, rfl, ?_, _, rfl⟩
      rw [nar_neginf.1, nar_neginf.2.2] at hr
      rw [HG.out]; exact hr
    · rw [decide_eq_false h0] at z1
      cases hs : sgn single x
      · rw [decide_eq_false (fun h => by rw [hs] at h; cases h.1)] at z2
        by_cases hi : rung single x = 2139095040
        · have HG := logNumV_inf hv h0 hs hi
          rw [decide_eq_false (by rw [hi]; decide)] at hfs
          have Hv : Hid (val .f32 x = some x) := hv
          have HS : Hid (sgn single x = false) := hs
          have HI : Hid (rung single x = 2139095040) := hi
          have hxe := f32_zero_inf x hx hs hi
          clear hv hnn h0 hs hi
          clear hxe
          go_enter Try.func35, Try.ntmps35
          go_wp2_with (first | ((refine wpList_widen (o := ⟨some 4, _, _, _, _, _⟩) rfl _ _ _ rfl _ rfl (by kernel_rfl) (by kernel_rfl) ?_; intro y ny hy); have hye := nar_posinf Hv.out hy HS.out HI.out) | (go_at_call 46; refine (spec_l01LogWide_inf _).mono ?_; rintro e w' ⟨rfl, nl, rfl⟩) | (go_at_call 42; refine (spec_l01Narrow _ (by rw [posinf.1]; exact posinf.2.1) _).mono ?_; rintro e w' ⟨r, rfl, hr, nr, rfl⟩) | fail)
          go_ret
          refine ⟨r, rfl, ?_, _, rfl⟩
          rw [posinf.1, posinf.2.2] at hr
          rw [HG.out]; exact hr
        · have HG := logNumV_pos hv h0 hs hi
          rw [decide_eq_true (show rung single x < single.infRung from by show rung single x < 2139095040; omega)] at hfs
          have Hv : Hid (val .f32 x = some x) := hv
          have HP : Hid (∀ r, FR .f64 r (wid (val .f32 x)) → r = W x ∧ 3936146074321813504 ≤ r ∧ r ≤ 5183643170566569984) := fun r hr => wid_pos hv hr hs (by omega) (by show rung single x < 2139095040; omega)
          clear hv hnn h0 hs hi
          go_enter Try.func35, Try.ntmps35
          go_wp2_with (first | (refine wpList_widen (o := ⟨some 4, _, _, _, _, _⟩) rfl _ _ _ rfl _ rfl (by kernel_rfl) (by kernel_rfl) ?_; intro y ny hy) | (go_at_call 46; refine (spec_l01LogWide_fin _ (HP.out _ hy).2.1 (HP.out _ hy).2.2 _).mono ?_; rintro e w' ⟨l, rfl, hl, nl, rfl⟩) | (go_at_call 42; refine (spec_l01Narrow _ (by rw [hl.val]; exact logV_ok (HP.out _ hy).2.1 (HP.out _ hy).2.2) _).mono ?_; rintro e w' ⟨r, rfl, hr, nr, rfl⟩) | fail)
          go_ret
          refine ⟨r, rfl, ?_, _, rfl⟩
          rw [hl.val, (HP.out _ hy).1] at hr
          rw [HG.out]; exact hr
      · have HG := logNumV_neg hv h0 hs
        rw [decide_eq_true ⟨hs, h0⟩] at z2
        have Hv : Hid (val .f32 x = some x) := hv
        have HN : Hid (∀ r, FR .f64 r (wid (val .f32 x)) → (FloatKind.f64.format.order r 0 == some .lt) = true ∧ (FloatKind.f64.format.order r r != some .eq) = false) := by
          intro r hr
          obtain ⟨_, t2, t3⟩ := zero_tests .f64 (x := r) ((nn_iff .f64 r).1 (FR_wid hv hr).1)
          refine ⟨?_, t3⟩
          rw [t2]
          refine decide_eq_true ?_
          obtain ⟨w1, w2⟩ := wid_neg hv hr hs (by omega)
          exact ⟨w1, w2⟩
        clear hv hnn h0 hs hfs
        go_enter Try.func35, Try.ntmps35
        go_wp2_with (first | (refine wpList_widen (o := ⟨some 4, _, _, _, _, _⟩) rfl _ _ _ rfl _ rfl (by kernel_rfl) (by kernel_rfl) ?_; intro y ny hy) | (go_at_call 46; refine (spec_l01LogWide_neg _ (HN.out _ hy).1 (HN.out _ hy).2 _).mono ?_; rintro e w' ⟨rfl, nl, rfl⟩) | (go_at_call 42; refine (spec_l01Narrow _ (by rw [nan_val]; exact NarOk.none) _).mono ?_; rintro e w' ⟨r, rfl, hr, nr, rfl⟩) | fail)
        go_ret
        refine ⟨r, rfl, ?_, _, rfl⟩
        rw [nan_val] at hr
        rw [HG.out]; exact hr
  · have HG := logNumV_nan hv
    have z1 := order_nan 0 hv
    have z2 := order_nan x hv
    have Hv : Hid (val .f32 x = none) := hv
    clear hv
    go_enter Try.func35, Try.ntmps35
    go_wp2_with (first | (refine wpList_widen (o := ⟨some 4, _, _, _, _, _⟩) rfl _ _ _ rfl _ rfl (by kernel_rfl) (by kernel_rfl) ?_; intro y ny hy) | (go_at_call 46; refine (spec_l01LogWide_nan _ (by rw [hy.val, Hv.out]; rfl) _).mono ?_; rintro e w' ⟨rfl, nl, rfl⟩) | (go_at_call 42; refine (spec_l01Narrow _ (by rw [nan_val]; exact NarOk.none) _).mono ?_; rintro e w' ⟨r, rfl, hr, nr, rfl⟩) | fail)
    go_ret
    refine ⟨r, rfl, ?_, _, rfl⟩
    rw [nan_val] at hr
    rw [HG.out]; exact hr

theorem spec_LogNumber (x : Nat) (hx : x < 4294967296) (w : World) : Calls Try.prog 20 #[.float .f32 x] w fun e w' => ∃ r, e = .returned (.float .f32 r) ∧ FR .f32 r (logNumV (val .f32 x)) ∧ ∃ n, w' = w.drewN n := by
  go_enter Try.func20, Try.ntmps20
  go_wp2_with (go_at_call 35; refine (spec_l01Log _ hx _).mono ?_; rintro e w' ⟨r, rfl, hr, n, rfl⟩)
  go_ret
  exact ⟨r, rfl, hr, n, rfl⟩

theorem fnExactLogNumber_walk (w : World) (a0 : Nat) (w0 : a0 < 2 ^ FloatKind.f32.format.width) :
    Calls Try.prog 8 #[.float .f32 a0] w fun e w' => e = .returned (.bool true) ∧ Below w.heap.size w w' := by
  have hx : a0 < 4294967296 := w0
  clear w0
  go_enter Try.func8, Try.ntmps8
  go_wp2_with (first | (go_at_call 20; refine (spec_LogNumber _ hx _).mono ?_; rintro e w' ⟨r1, rfl, hr1, n1, rfl⟩) | (go_at_call 21; refine (impl_LogNumber _ hx _).mono ?_; rintro e w' ⟨r2, rfl, hr2, n2, rfl⟩) | (refine wpList_widen rfl _ _ _ rfl _ rfl (by kernel_rfl) (by kernel_rfl) ?_; intro r n hr; (try rw [hr1.val] at hr); (try rw [hr2.val] at hr)) | (go_at_call 11; refine (sameFloat_FR _ _ _ (by assumption) (by assumption) _).mono ?_; rintro e w' ⟨rfl, n, rfl⟩))
  go_ret
  exact ⟨rfl, below_drewN2 _ _⟩
end Go.Proofs.Ytmbfdpplkbdpiab
