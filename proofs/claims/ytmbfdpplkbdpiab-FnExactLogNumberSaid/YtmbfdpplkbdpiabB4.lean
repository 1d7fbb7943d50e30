/-
  Contracts and the law: SineTurns on both sides.
-/
import Derived.Test.YtmbfdpplkbdpiabB3
import Derived.Test.YtmbfdpplkbdpiabB1
namespace Go.Proofs.Ytmbfdpplkbdpiab
open Fl Ieee Go.RowKit
set_option linter.unusedVariables false

/-- x - x, of a finite number: a zero; of an infinity: no number. -/
theorem sub_self (k : FloatKind) {x : Nat} (h : rung k.format x < k.format.infRung) : cmp k (bin .sub k (some x) (some x)) (some 0) = some .eq := by
  obtain ⟨r, hr, hn⟩ := near_sub k h h
  have hz : rung k.format r = 0 := by
    have := hn.le (s := 0) (by rw [Int.sub_self]; simp)
    omega
  rw [hr]
  show k.format.order r 0 = _
  have hi : 0 < k.format.infRung := by cases k <;> decide
  have h0 : rung k.format 0 = 0 := by unfold rung; simp
  rw [order_key k (by omega) (by omega)]
  have e1 : key k.format r = 0 := by unfold key; rw [hz]; split <;> rfl
  have e2 : key k.format 0 = 0 := by unfold key; rw [h0]; split <;> rfl
  rw [e1, e2]; rfl

theorem sub_inf (k : FloatKind) {x : Nat} (h : rung k.format x = k.format.infRung) : bin .sub k (some x) (some x) = none := by
  show (((k.format.read x).sum (k.format.read x).opposite).map k.format.write) = none
  rw [read_inf k.format (binade_le k) h]
  show (Option.map _ (if sgn k.format x = (!sgn k.format x) then _ else _)) = _
  rw [if_neg (by cases sgn k.format x <;> decide)]; rfl

theorem isFin_some {x : Nat} (h : val .f32 x = some x) : isFin (val .f32 x) = decide (rung single x < single.infRung) := by
  have hnn := (nn_iff .f32 x).1 h
  rw [h]
  unfold isFin
  rcases Nat.lt_or_ge (rung single x) single.infRung with h' | h'
  · rw [sub_self .f32 h', decide_eq_true h']; rfl
  · have e : rung single x = single.infRung := by
      have : rung single x ≤ single.infRung := hnn
      omega
    rw [sub_inf .f32 e, decide_eq_false (by omega)]; rfl

/-- The whole part of a value. -/
def wholeV (X : Option Nat) : Int := match X with | some b => (floatToIntVal .f64 b .i64).getD 0 | none => 0

/-- Is a value below 2^52? -/
def belowV (X : Option Nat) : Bool := match X with | some b => decide (rung double b < 4841369599423283200) | none => false

/-- The sine of a number of turns. -/
def sineTurnsV (X : Option Nat) : Option Nat :=
  if isFin X then (if belowV (wid X) then nar (sineV (fracV (wid X) (wholeV (wid X)))) else some 0) else none

theorem small_frac {x : Nat} (h : rung double x < 4841369599423283200) : ∃ n : Int, floatToIntVal .f64 x .i64 = some n ∧ Bd (bin .sub .f64 (some x) (some (floatOfInt .f64 n))) ONE := by
  obtain ⟨n, hn, r, hr, hle⟩ := frac_le 1074 (by decide) (b := x) (Nat.lt_trans h (by decide)) (by
    have := (mg_lt_iff double).2 h
    have e : mg double 4841369599423283200 = 2 ^ 52 * 2 ^ 1074 := by decide +kernel
    rw [← e]; exact this) ONE (by decide +kernel)
  exact ⟨n, hn, r, hr, hle⟩

theorem nan_val : val .f64 9221120237041090561 = none := by rw [val64, if_neg (by decide)]

theorem math_NaN (w : World) : Calls Try.prog 30 #[] w fun e w' => e = .returned (.float .f64 9221120237041090561) ∧ w' = w := by
  go_enter Try.func30, Try.ntmps30
  go_wp2
  go_ret
  exact ⟨rfl, rfl⟩

theorem FR_wid {x r : Nat} (hv : val .f32 x = some x) (hr : FR .f64 r (wid (val .f32 x))) : val .f64 r = some r ∧ r = W x := by
  have e := wid_some hv hr
  refine ⟨?_, e⟩
  rw [hr.val, hv, e]; rfl

/-- The test of the program: is the absolute value 2^52 or more? -/
theorem abs_geq {r : Nat} (hlt : r < 18446744073709551616) (hv : val .f64 r = some r) : (FloatKind.f64.format.order (r % 9223372036854775808) 4841369599423283200 == some .gt || FloatKind.f64.format.order (r % 9223372036854775808) 4841369599423283200 == some .eq) = !decide (rung double r < 4841369599423283200) := by
  have hnn := (nn_iff .f64 r).1 hv
  have hr1 : rung double (r % 9223372036854775808) = rung double r := by show r % 9223372036854775808 % 9223372036854775808 = r % 9223372036854775808; omega
  have hs : sgn double (r % 9223372036854775808) = false := by rw [(f64_split (by omega)).2]; simp; omega
  have hk : key double (r % 9223372036854775808) = (rung double r : Int) := by unfold key; rw [hs, hr1]; rfl
  have hkc : key double 4841369599423283200 = (4841369599423283200 : Int) := by decide
  rw [order_key .f64 (by show rung double _ ≤ double.infRung; rw [hr1]; exact hnn) (by decide)]
  show (some (compare (key double (r % 9223372036854775808)) (key double 4841369599423283200)) == some .gt || some (compare (key double (r % 9223372036854775808)) (key double 4841369599423283200)) == some .eq) = _
  rw [hk, hkc, Bool.eq_iff_iff]
  simp only [Bool.or_eq_true, beq_iff_eq, Option.some.injEq, Int.compare_eq_gt, Int.compare_eq_eq, Bool.not_eq_true', decide_eq_false_iff_not]
  omega

/-- The tests of the reference. -/
theorem hi_geq {r : Nat} (hv : val .f64 r = some r) : (FloatKind.f64.format.order r 4841369599423283200 == some .gt || FloatKind.f64.format.order r 4841369599423283200 == some .eq) = decide (sgn double r = false ∧ ¬ rung double r < 4841369599423283200) := by
  have hnn := (nn_iff .f64 r).1 hv
  have hkc : key double 4841369599423283200 = (4841369599423283200 : Int) := by decide
  rw [order_key .f64 hnn (by decide)]
  show (some (compare (key double r) (key double 4841369599423283200)) == some .gt || some (compare (key double r) (key double 4841369599423283200)) == some .eq) = _
  rw [hkc, Bool.eq_iff_iff]
  simp only [Bool.or_eq_true, beq_iff_eq, Option.some.injEq, Int.compare_eq_gt, Int.compare_eq_eq, decide_eq_true_eq]
  unfold key
  cases sgn double r <;> simp <;> omega

theorem lo_leq {r : Nat} (hv : val .f64 r = some r) : (FloatKind.f64.format.order r 14064741636278059008 == some .lt || FloatKind.f64.format.order r 14064741636278059008 == some .eq) = decide (sgn double r = true ∧ ¬ rung double r < 4841369599423283200) := by
  have hnn := (nn_iff .f64 r).1 hv
  have hkc : key double 14064741636278059008 = (-4841369599423283200 : Int) := by decide
  rw [order_key .f64 hnn (by decide)]
  show (some (compare (key double r) (key double 14064741636278059008)) == some .lt || some (compare (key double r) (key double 14064741636278059008)) == some .eq) = _
  rw [hkc, Bool.eq_iff_iff]
  simp only [Bool.or_eq_true, beq_iff_eq, Option.some.injEq, Int.compare_eq_lt, Int.compare_eq_eq, decide_eq_true_eq]
  unfold key
  cases sgn double r <;> simp <;> omega

theorem impl_SineTurns (x : Nat) (hx : x < 4294967296) (w : World) : Calls Try.prog 17 #[.float .f32 x] w fun e w' => ∃ r, e = .returned (.float .f32 r) ∧ FR .f32 r (sineTurnsV (val .f32 x)) ∧ ∃ n, w' = w.drewN n := by
  cases hf : isFin (val .f32 x)
  · have hgoal : sineTurnsV (val .f32 x) = none := by unfold sineTurnsV; rw [hf]; rfl
    have HG : Hid (sineTurnsV (val .f32 x) = none) := hgoal
    clear hgoal
    go_enter Try.func17, Try.ntmps17
    go_wp2_with (first | (go_at_call 29; refine (impl_IsFinite _ _).mono ?_; rintro e w' ⟨rfl, nf, rfl⟩) | (go_at_call 30; refine (math_NaN _).mono ?_; rintro e w' ⟨rfl, rfl⟩) | (refine wpList_narrow (o := ⟨some 7, _, _, _, _, _⟩) rfl _ _ _ rfl _ rfl (by kernel_rfl) (by kernel_rfl) (by rw [nan_val]; exact NarOk.none) ?_; intro r nr hr))
    go_ret
    refine ⟨r, rfl, ?_, _, rfl⟩
    rw [nan_val] at hr
    rw [HG.out]; exact hr
  · have hv : val .f32 x = some x := by
      rcases val_cases .f32 x with h | h
      · exact h
      · rw [h] at hf; exact absurd hf (by decide)
    have Hv : Hid (val .f32 x = some x) := hv
    cases hb : belowV (wid (val .f32 x))
    · have hgoal : sineTurnsV (val .f32 x) = some 0 := by unfold sineTurnsV; rw [hf, hb]; rfl
      have HG : Hid (sineTurnsV (val .f32 x) = some 0) := hgoal
      have HB : Hid (belowV (wid (val .f32 x)) = false) := hb
      clear hgoal hv hb
      go_enter Try.func17, Try.ntmps17
      go_wp2_with (first | (go_at_call 29; refine (impl_IsFinite _ _).mono ?_; rintro e w' ⟨rfl, nf, rfl⟩) | ((refine wpList_widen (o := ⟨some 9, _, _, _, _, _⟩) rfl _ _ _ rfl _ rfl (by kernel_rfl) (by kernel_rfl) ?_; intro y ny hy); have hlt : y < 18446744073709551616 := hy.lt; have ht : (FloatKind.f64.format.order (y % 9223372036854775808) 4841369599423283200 == some .gt || FloatKind.f64.format.order (y % 9223372036854775808) 4841369599423283200 == some .eq) = true := (by have hb := HB.out; rw [← hy.val, (FR_wid Hv.out hy).1] at hb; rw [abs_geq hlt (FR_wid Hv.out hy).1]; simp only [belowV] at hb; rw [hb]; rfl)) | (go_at_call 31; refine (math_Abs _ hlt _).mono ?_; rintro e w' ⟨rfl, rfl⟩))
      go_ret
      exact ⟨0, rfl, by rw [HG.out]; exact ⟨by decide, by rw [val32, if_pos (by decide)]⟩, _, rfl⟩
    · have hw : wid (val .f32 x) = some (W x) := by rw [hv]; rfl
      have hsm : rung double (W x) < 4841369599423283200 := by rw [hw] at hb; simpa [belowV] using hb
      obtain ⟨n, hn, hbd⟩ := small_frac hsm
      have hgoal : sineTurnsV (val .f32 x) = nar (sineV (fracV (wid (val .f32 x)) n)) := by
        unfold sineTurnsV; rw [hf, hb, if_pos rfl, if_pos rfl, hw]; simp only [wholeV]; rw [hn]; rfl
      have hok : NarOk (sineV (fracV (wid (val .f32 x)) n)) := by rw [hw]; exact sineV_ok (frac_bd hbd)
      have HG : Hid (sineTurnsV (val .f32 x) = nar (sineV (fracV (wid (val .f32 x)) n))) := hgoal
      have HB : Hid (rung double (W x) < 4841369599423283200) := hsm
      have HN : Hid (floatToIntVal .f64 (W x) .i64 = some n) := hn
      clear hgoal hv hb hw hsm hn hbd
      go_enter Try.func17, Try.ntmps17
      go_wp2_with (first | (go_at_call 29; refine (impl_IsFinite _ _).mono ?_; rintro e w' ⟨rfl, nf, rfl⟩) | ((refine wpList_widen (o := ⟨some 9, _, _, _, _, _⟩) rfl _ _ _ rfl _ rfl (by kernel_rfl) (by kernel_rfl) ?_; intro y ny hy); have hlt : y < 18446744073709551616 := hy.lt; have ht : (FloatKind.f64.format.order (y % 9223372036854775808) 4841369599423283200 == some .gt || FloatKind.f64.format.order (y % 9223372036854775808) 4841369599423283200 == some .eq) = false := (by rw [abs_geq hlt (FR_wid Hv.out hy).1, (FR_wid Hv.out hy).2, decide_eq_true HB.out]; rfl)) | (go_at_call 31; refine (math_Abs _ hlt _).mono ?_; rintro e w' ⟨rfl, rfl⟩) | (refine wpList_widen (o := ⟨some 13, _, _, _, _, _⟩) rfl _ _ _ rfl _ rfl (by kernel_rfl) (by kernel_rfl) ?_; intro z nz hz) | (go_at_call 32; refine (impl_sine _ n (by rw [(FR_wid Hv.out hz).2]; exact HN.out) _).mono ?_; rintro e w' ⟨s, rfl, hs, ns, rfl⟩; rw [hz.val] at hs) | (refine wpList_narrow (o := ⟨some 15, _, _, _, _, _⟩) rfl _ _ _ rfl _ rfl (by kernel_rfl) (by kernel_rfl) (by rw [hs.val]; exact hok) ?_; intro r nr hr))
      go_ret
      refine ⟨r, rfl, ?_, _, rfl⟩
      rw [hs.val] at hr
      rw [HG.out]; exact hr

theorem spec_sine (x : Nat) (n : Int) (hn : floatToIntVal .f64 x .i64 = some n) (hfin : cmp .f64 (bin .sub .f64 (val .f64 x) (val .f64 x)) (some 0) = some .eq) (hhi : (FloatKind.f64.format.order x 4841369599423283200 == some .gt || FloatKind.f64.format.order x 4841369599423283200 == some .eq) = false) (hlo : (FloatKind.f64.format.order x 14064741636278059008 == some .lt || FloatKind.f64.format.order x 14064741636278059008 == some .eq) = false) (w : World) :
    Calls Try.prog 43 #[.float .f64 x] w fun e w' => ∃ r, e = .returned (.float .f64 r) ∧ FR .f64 r (sineV (fracV (val .f64 x) n)) ∧ ∃ n, w' = w.drewN n := by
  cases b0 : ltV (bin .sub .f64 (val .f64 x) (some (floatOfInt .f64 n))) (some 0) <;> cases b1 : geqV (fracV (val .f64 x) n) (some HALF) <;> cases b2 : gtV (fold1 (fracV (val .f64 x) n)) (some QUARTER)
  · exact spec_sine_000 x n hn hfin hhi hlo _ rfl b1 b2 b0 w
  · exact spec_sine_001 x n hn hfin hhi hlo _ rfl b1 b2 b0 w
  · exact spec_sine_010 x n hn hfin hhi hlo _ rfl b1 b2 b0 w
  · exact spec_sine_011 x n hn hfin hhi hlo _ rfl b1 b2 b0 w
  · exact spec_sine_100 x n hn hfin hhi hlo _ rfl b1 b2 b0 w
  · exact spec_sine_101 x n hn hfin hhi hlo _ rfl b1 b2 b0 w
  · exact spec_sine_110 x n hn hfin hhi hlo _ rfl b1 b2 b0 w
  · exact spec_sine_111 x n hn hfin hhi hlo _ rfl b1 b2 b0 w

theorem spec_sine_nan (x : Nat) (hfin : (cmp .f64 (bin .sub .f64 (val .f64 x) (val .f64 x)) (some 0) != some .eq) = true) (w : World) :
    Calls Try.prog 43 #[.float .f64 x] w fun e w' => ∃ r, e = .returned (.float .f64 r) ∧ FR .f64 r none ∧ ∃ n, w' = w.drewN n := by
  have HFIN : Hid ((cmp .f64 (bin .sub .f64 (val .f64 x) (val .f64 x)) (some 0) != some .eq) = true) := hfin
  clear hfin
  go_enter Try.func43, Try.ntmps43
  go_wp2_with (first | ((refine wpList_fbin (o := ⟨some 11, _, _, _, _, _⟩) rfl _ _ _ _ _ rfl (by decide) _ _ _ rfl rfl ?_; intro y ny hy); have ty : (FloatKind.f64.format.order y 0 != some .eq) = true := (by rw [order_cmp, hy.val, vZERO]; exact HFIN.out)) | (go_at_call 30; refine (math_NaN _).mono ?_; rintro e w' ⟨rfl, rfl⟩) | fail)
  go_ret
  exact ⟨_, rfl, ⟨by decide, nan_val⟩, _, rfl⟩

theorem spec_sine_big (x : Nat) (hfin : cmp .f64 (bin .sub .f64 (val .f64 x) (val .f64 x)) (some 0) = some .eq) (h : (FloatKind.f64.format.order x 4841369599423283200 == some .gt || FloatKind.f64.format.order x 4841369599423283200 == some .eq) = true ∨ ((FloatKind.f64.format.order x 4841369599423283200 == some .gt || FloatKind.f64.format.order x 4841369599423283200 == some .eq) = false ∧ (FloatKind.f64.format.order x 14064741636278059008 == some .lt || FloatKind.f64.format.order x 14064741636278059008 == some .eq) = true)) (w : World) :
    Calls Try.prog 43 #[.float .f64 x] w fun e w' => ∃ r, e = .returned (.float .f64 r) ∧ FR .f64 r (some 0) ∧ ∃ n, w' = w.drewN n := by
  have HFIN : Hid (cmp .f64 (bin .sub .f64 (val .f64 x) (val .f64 x)) (some 0) = some .eq) := hfin
  clear hfin
  rcases h with h | ⟨h, h'⟩
  · go_enter Try.func43, Try.ntmps43
    go_wp2_with (first | ((refine wpList_fbin (o := ⟨some 11, _, _, _, _, _⟩) rfl _ _ _ _ _ rfl (by decide) _ _ _ rfl rfl ?_; intro y ny hy); have ty : (FloatKind.f64.format.order y 0 != some .eq) = false := (by rw [order_cmp, hy.val, vZERO, HFIN.out]; rfl)) | fail)
    go_ret
    exact ⟨0, rfl, ⟨by decide, vZERO⟩, _, rfl⟩
  · go_enter Try.func43, Try.ntmps43
    go_wp2_with (first | ((refine wpList_fbin (o := ⟨some 11, _, _, _, _, _⟩) rfl _ _ _ _ _ rfl (by decide) _ _ _ rfl rfl ?_; intro y ny hy); have ty : (FloatKind.f64.format.order y 0 != some .eq) = false := (by rw [order_cmp, hy.val, vZERO, HFIN.out]; rfl)) | fail)
    go_ret
    exact ⟨0, rfl, ⟨by decide, vZERO⟩, _, rfl⟩

theorem nar_zero : NarOk (some 0) ∧ nar (some 0) = some 0 := ⟨NarOk.of_le (by decide +kernel), by show some (N 0) = some 0; rw [show N 0 = 0 by decide +kernel]⟩

theorem spec_l01Sine (x : Nat) (hx : x < 4294967296) (w : World) : Calls Try.prog 28 #[.float .f32 x] w fun e w' => ∃ r, e = .returned (.float .f32 r) ∧ FR .f32 r (sineTurnsV (val .f32 x)) ∧ ∃ n, w' = w.drewN n := by
  rcases val_cases .f32 x with hv | hv
  · have hfs := isFin_some hv
    have hnn := (nn_iff .f32 x).1 hv
    have Hv : Hid (val .f32 x = some x) := hv
    by_cases hfin : rung single x < single.infRung
    · rw [decide_eq_true hfin] at hfs
      have hWf := (W_fin hfin).2.2
      by_cases hsm : rung double (W x) < 4841369599423283200
      · obtain ⟨n, hn, hbd⟩ := small_frac hsm
        have hw : wid (val .f32 x) = some (W x) := by rw [hv]; rfl
        have hgoal : sineTurnsV (val .f32 x) = nar (sineV (fracV (wid (val .f32 x)) n)) := by
          have hb : belowV (wid (val .f32 x)) = true := by rw [hw]; simp only [belowV]; exact decide_eq_true hsm
          unfold sineTurnsV; rw [hfs, hb, if_pos rfl, if_pos rfl, hw]; simp only [wholeV]; rw [hn]; rfl
        have hok : NarOk (sineV (fracV (wid (val .f32 x)) n)) := by rw [hw]; exact sineV_ok (frac_bd hbd)
        have HG : Hid (sineTurnsV (val .f32 x) = nar (sineV (fracV (wid (val .f32 x)) n))) := hgoal
        have HB : Hid (rung double (W x) < 4841369599423283200) := hsm
        have HN : Hid (floatToIntVal .f64 (W x) .i64 = some n) := hn
        have HF : Hid (rung double (W x) < double.infRung) := hWf
        clear hgoal hv hw hsm hn hbd hfs hWf hfin
        go_enter Try.func28, Try.ntmps28
        go_wp2_with (first | (refine wpList_widen (o := ⟨some 4, _, _, _, _, _⟩) rfl _ _ _ rfl _ rfl (by kernel_rfl) (by kernel_rfl) ?_; intro z nz hz) | (go_at_call 43; refine (spec_sine _ n (by rw [(FR_wid Hv.out hz).2]; exact HN.out) (by rw [(FR_wid Hv.out hz).1, (FR_wid Hv.out hz).2]; exact sub_self .f64 HF.out) (by rw [hi_geq (FR_wid Hv.out hz).1, (FR_wid Hv.out hz).2]; exact decide_eq_false (fun h => h.2 HB.out)) (by rw [lo_leq (FR_wid Hv.out hz).1, (FR_wid Hv.out hz).2]; exact decide_eq_false (fun h => h.2 HB.out)) _).mono ?_; rintro e w' ⟨s, rfl, hs, ns, rfl⟩; rw [hz.val] at hs) | (go_at_call 42; refine (spec_l01Narrow _ (by rw [hs.val]; exact hok) _).mono ?_; rintro e w' ⟨r, rfl, hr, nr, rfl⟩))
        go_ret
        refine ⟨r, rfl, ?_, _, rfl⟩
        rw [hs.val] at hr
        rw [HG.out]; exact hr
      · have hgoal : sineTurnsV (val .f32 x) = some 0 := by
          have hw : wid (val .f32 x) = some (W x) := by rw [hv]; rfl
          have hb : belowV (wid (val .f32 x)) = false := by rw [hw]; simp only [belowV]; exact decide_eq_false hsm
          unfold sineTurnsV; rw [hfs, hb]; rfl
        have HG : Hid (sineTurnsV (val .f32 x) = some 0) := hgoal
        have HB : Hid (¬ rung double (W x) < 4841369599423283200) := hsm
        have HF : Hid (rung double (W x) < double.infRung) := hWf
        clear hgoal hv hsm hfs hWf hfin
        go_enter Try.func28, Try.ntmps28
        go_wp2_with (first | (refine wpList_widen (o := ⟨some 4, _, _, _, _, _⟩) rfl _ _ _ rfl _ rfl (by kernel_rfl) (by kernel_rfl) ?_; intro z nz hz) | (go_at_call 43; refine (spec_sine_big _ (by rw [(FR_wid Hv.out hz).1, (FR_wid Hv.out hz).2]; exact sub_self .f64 HF.out) (by rw [hi_geq (FR_wid Hv.out hz).1, lo_leq (FR_wid Hv.out hz).1, (FR_wid Hv.out hz).2]; have := HB.out; cases sgn double (W x) <;> simp [this]) _).mono ?_; rintro e w' ⟨s, rfl, hs, ns, rfl⟩) | (go_at_call 42; refine (spec_l01Narrow _ (by rw [hs.val]; exact nar_zero.1) _).mono ?_; rintro e w' ⟨r, rfl, hr, nr, rfl⟩))
        go_ret
        refine ⟨r, rfl, ?_, _, rfl⟩
        rw [hs.val, nar_zero.2] at hr
        rw [HG.out]; exact hr
    · have hinf : rung single x = single.infRung := by
        have : rung single x ≤ single.infRung := hnn
        omega
      have hgoal : sineTurnsV (val .f32 x) = none := by unfold sineTurnsV; rw [hfs, decide_eq_false hfin]; rfl
      have HG : Hid (sineTurnsV (val .f32 x) = none) := hgoal
      have HI : Hid (rung double (W x) = double.infRung) := (W_inf hinf).1
      clear hgoal hv hfs hfin hinf
      go_enter Try.func28, Try.ntmps28
      go_wp2_with (first | (refine wpList_widen (o := ⟨some 4, _, _, _, _, _⟩) rfl _ _ _ rfl _ rfl (by kernel_rfl) (by kernel_rfl) ?_; intro z nz hz) | (go_at_call 43; refine (spec_sine_nan _ (by rw [(FR_wid Hv.out hz).1, (FR_wid Hv.out hz).2, sub_inf .f64 HI.out]; rfl) _).mono ?_; rintro e w' ⟨s, rfl, hs, ns, rfl⟩) | (go_at_call 42; refine (spec_l01Narrow _ (by rw [hs.val]; exact NarOk.none) _).mono ?_; rintro e w' ⟨r, rfl, hr, nr, rfl⟩))
      go_ret
      refine ⟨r, rfl, ?_, _, rfl⟩
      rw [hs.val] at hr
      rw [HG.out]; exact hr
  · have hgoal : sineTurnsV (val .f32 x) = none := by rw [hv]; rfl
    have HG : Hid (sineTurnsV (val .f32 x) = none) := hgoal
    have Hv : Hid (val .f32 x = none) := hv
    clear hgoal hv
    go_enter Try.func28, Try.ntmps28
    go_wp2_with (first | (refine wpList_widen (o := ⟨some 4, _, _, _, _, _⟩) rfl _ _ _ rfl _ rfl (by kernel_rfl) (by kernel_rfl) ?_; intro z nz hz) | (go_at_call 43; refine (spec_sine_nan _ (by rw [hz.val, Hv.out]; rfl) _).mono ?_; rintro e w' ⟨s, rfl, hs, ns, rfl⟩) | (go_at_call 42; refine (spec_l01Narrow _ (by rw [hs.val]; exact NarOk.none) _).mono ?_; rintro e w' ⟨r, rfl, hr, nr, rfl⟩))
    go_ret
    refine ⟨r, rfl, ?_, _, rfl⟩
    rw [hs.val] at hr
    rw [HG.out]; exact hr

theorem spec_SineTurns (x : Nat) (hx : x < 4294967296) (w : World) : Calls Try.prog 16 #[.float .f32 x] w fun e w' => ∃ r, e = .returned (.float .f32 r) ∧ FR .f32 r (sineTurnsV (val .f32 x)) ∧ ∃ n, w' = w.drewN n := by
  go_enter Try.func16, Try.ntmps16
  go_wp2_with (go_at_call 28; refine (spec_l01Sine _ hx _).mono ?_; rintro e w' ⟨r, rfl, hr, n, rfl⟩)
  go_ret
  exact ⟨r, rfl, hr, n, rfl⟩

theorem fnExactSineTurns_walk (w : World) (a0 : Nat) (w0 : a0 < 2 ^ FloatKind.f32.format.width) :
    Calls Try.prog 6 #[.float .f32 a0] w fun e w' => e = .returned (.bool true) ∧ Below w.heap.size w w' := by
  have hx : a0 < 4294967296 := w0
  clear w0
  go_enter Try.func6, Try.ntmps6
  go_wp2_with (first | (go_at_call 16; refine (spec_SineTurns _ hx _).mono ?_; rintro e w' ⟨r1, rfl, hr1, n1, rfl⟩) | (go_at_call 17; refine (impl_SineTurns _ hx _).mono ?_; rintro e w' ⟨r2, rfl, hr2, n2, rfl⟩) | (refine wpList_widen rfl _ _ _ rfl _ rfl (by kernel_rfl) (by kernel_rfl) ?_; intro r n hr; (try rw [hr1.val] at hr); (try rw [hr2.val] at hr)) | (go_at_call 11; refine (sameFloat_FR _ _ _ (by assumption) (by assumption) _).mono ?_; rintro e w' ⟨rfl, n, rfl⟩))
  go_ret
  exact ⟨rfl, below_drewN2 _ _⟩
end Go.Proofs.Ytmbfdpplkbdpiab
