/-
  Contracts: the sine of a number of turns, the program's side.
-/
import Derived.Test.YtmbfdpplkbdpiabA4
import Derived.Test.YtmbfdpplkbdpiabA1
import Derived.Test.YtmbfdpplkbdpiabSine
import Derived.Outline
namespace Go.Proofs.Ytmbfdpplkbdpiab
open Fl Ieee Go.RowKit
set_option linter.unusedVariables false

theorem val_ofInt (n : Int) : val .f64 (floatOfInt .f64 n) = some (floatOfInt .f64 n) := write_val .f64 (d := .number (decide (n < 0)) n.natAbs 0) rfl

theorem FR_neg64 {x : Nat} {X : Option Nat} (h : FR .f64 x X) : FR .f64 (x ^^^ 9223372036854775808) (negV64 X) := by
  have hx : x < 18446744073709551616 := h.lt
  have hb := neg_bits64 x hx
  refine ⟨hb.1, ?_⟩
  rw [← h.val, val64, val64, hb.2]
  split <;> rfl

theorem impl_fraction (x : Nat) (n : Int) (hn : floatToIntVal .f64 x .i64 = some n) (w : World) :
    Calls Try.prog 44 #[.float .f64 x] w fun e w' => ∃ r, e = .returned (.float .f64 r) ∧ FR .f64 r (fracV (val .f64 x) n) ∧ ∃ n, w' = w.drewN n := by
  have hc : ∀ w, (convert 25 2 (.float .f64 x)).run Try.prog w = .ok (.int .i64 n) w := fun w => run_convert_float_int w 25 2 .f64 .i64 x n (by kernel_rfl) (by kernel_rfl) hn
  clear hn
  go_enter Try.func44, Try.ntmps44
  go_wp2_with (first | (refine wpList_fbin (o := ⟨some 8, _, _, _, _, _⟩) rfl _ _ _ _ _ rfl (by decide) _ _ _ rfl rfl ?_; intro f nf hf; rw [val_ofInt] at hf) | (refine wpList_fbin (o := ⟨some 12, _, _, _, _, _⟩) rfl _ _ _ _ _ rfl (by decide) _ _ _ rfl rfl ?_; intro g ng hg; rw [hf.val, vONE] at hg))
  · have ht : (FloatKind.f64.format.order f 0 == some Ordering.lt) = true := by assumption
    rw [order_cmp, hf.val, vZERO] at ht
    go_ret
    refine ⟨g, rfl, ?_, _, rfl⟩
    unfold fracV
    dsimp only
    rw [if_pos (show ltV _ _ = true from ht)]; exact hg
  · have ht : (FloatKind.f64.format.order f 0 == some Ordering.lt) = false := by assumption
    rw [order_cmp, hf.val, vZERO] at ht
    go_ret
    refine ⟨f, rfl, ?_, _, rfl⟩
    unfold fracV
    dsimp only
    rw [if_neg (by unfold ltV; rw [ht]; decide)]; exact hf

theorem impl_sine_11 (x : Nat) (n : Int) (hn : floatToIntVal .f64 x .i64 = some n) (F : Option Nat) (hF : fracV (val .f64 x) n = F) (b1 : geqV F (some HALF) = true) (b2 : gtV (fold1 F) (some QUARTER) = true) (w : World) :
    Calls Try.prog 32 #[.float .f64 x] w fun e w' => ∃ r, e = .returned (.float .f64 r) ∧ FR .f64 r (sineV F) ∧ ∃ n, w' = w.drewN n := by
  have hF1 : fold1 F = (bin .sub .f64 F (some HALF)) := by unfold fold1; rw [b1]; rfl
  have hF2 : fold2 (fold1 F) = (bin .sub .f64 (some HALF) (bin .sub .f64 F (some HALF))) := by unfold fold2; rw [b2, hF1]; rfl
  have b2' := b2
  rw [hF1] at b2'
  have HF : Hid (fracV (val .f64 x) n = F) := hF
  have HB1 : Hid (geqV F (some HALF) = true) := b1
  have HB2 : Hid (gtV (bin .sub .f64 F (some HALF)) (some QUARTER) = true) := b2'
  have HF2 : Hid (fold2 (fold1 F) = (bin .sub .f64 (some HALF) (bin .sub .f64 F (some HALF)))) := hF2
  clear hF b1 b2 b2' hF1 hF2
  go_enter Try.func32, Try.ntmps32
  go_wp2_with (first | (go_at_call 44; refine (impl_fraction _ n hn _).mono ?_; rintro e w' ⟨f, rfl, hf, nf, rfl⟩; rw [HF.out] at hf; have t1 : (FloatKind.f64.format.order f 4602678819172646912 == some .gt || FloatKind.f64.format.order f 4602678819172646912 == some .eq) = true := (by rw [order_cmp, hf.val, vHALF]; exact HB1.out)) | ((refine wpList_fbin (o := ⟨some 15, _, _, _, _, _⟩) rfl _ _ _ _ _ rfl (by decide) _ _ _ rfl rfl ?_; intro g ng hg; rw [hf.val, vHALF] at hg); have t2 : (FloatKind.f64.format.order g 4598175219545276416 == some .gt) = true := (by rw [order_cmp, hg.val, vQUARTER]; exact HB2.out)) | (refine wpList_fbin (o := ⟨some 19, _, _, _, _, _⟩) rfl _ _ _ _ _ rfl (by decide) _ _ _ rfl rfl ?_; intro k nk hk; rw [hg.val, vHALF] at hk) | (refine wpList_fbin (o := ⟨some 21, _, _, _, _, _⟩) rfl _ _ _ _ _ rfl (by decide) _ _ _ rfl rfl ?_; intro z nz hz; rw [hk.val, vTURN, ← HF2.out] at hz) | (refine wpList_fbin (o := ⟨some 24, _, _, _, _, _⟩) rfl _ _ _ _ _ rfl (by decide) _ _ _ rfl rfl ?_; intro u nu hu; rw [hz.val] at hu) | fail)
  go_loopw [7, 8] (fun p k wr => ∃ i : Nat, i ≤ 8 ∧ ∃ pb : Nat, p = .float .f64 pb ∧ k = .float .f64 (sinK i) ∧ FR .f64 pb (sinP (bin .mul .f64 (sinZ F) (sinZ F)) i) ∧ ∃ n, wr = w.drewN n) (fun _ k _ => match k with | .float _ b => b | _ => 0)
  case atStart => exact ⟨0, by omega, _, rfl, rfl, ⟨by decide, vONE⟩, _, rfl⟩
  case round =>
    obtain ⟨i, hi, pb, rfl, rfl, hp, nw, rfl⟩ := hrel
    have ht := sin_test i hi
    by_cases hlt : i < 8
    · rw [decide_eq_true hlt] at ht
      have ht' : (FloatKind.f64.format.order (sinK i) 4607182418800017408 == some .gt || FloatKind.f64.format.order (sinK i) 4607182418800017408 == some .eq) = true := ht
      clear ht
      go_wp2_with (first | (refine wpList_fbin (o := ⟨some 31, _, _, _, _, _⟩) rfl _ _ _ _ _ rfl (by decide) _ _ _ rfl rfl ?_; intro m nm hm; rw [hu.val, hp.val] at hm) | (refine wpList_fbin (o := ⟨some 33, _, _, _, _, _⟩) rfl _ _ _ _ _ rfl (by decide) _ _ _ rfl rfl ?_; intro a na ha; rw [vTWO, vSinK i hi] at ha) | (refine wpList_fbin (o := ⟨some 35, _, _, _, _, _⟩) rfl _ _ _ _ _ rfl (by decide) _ _ _ rfl rfl ?_; intro b nb hb; rw [vTWO, vSinK i hi] at hb) | (refine wpList_fbin (o := ⟨some 36, _, _, _, _, _⟩) rfl _ _ _ _ _ rfl (by decide) _ _ _ rfl rfl ?_; intro c nc hc; rw [hb.val, vONE] at hc) | (refine wpList_fbin (o := ⟨some 37, _, _, _, _, _⟩) rfl _ _ _ _ _ rfl (by decide) _ _ _ rfl rfl ?_; intro d nd hd; rw [ha.val, hc.val, (sin_consts i hlt).1] at hd) | (refine wpList_fbin (o := ⟨some 38, _, _, _, _, _⟩) rfl _ _ _ _ _ rfl (by decide) _ _ _ rfl rfl ?_; intro q nq hq; rw [hm.val, hd.val] at hq) | (refine wpList_fbin (o := ⟨some 39, _, _, _, _, _⟩) rfl _ _ _ _ _ rfl (by decide) _ _ _ rfl rfl ?_; intro r nr hr; rw [vONE, hq.val] at hr) | (refine wpList_fbin (o := ⟨some 28, _, _, _, _, _⟩) rfl _ _ _ _ _ rfl (by decide) _ _ _ rfl rfl ?_; intro kk nkk hkk; rw [vSinK i hi, vONE, (sin_consts i hlt).2.1] at hkk) | fail)
      go_roundw
      case rel => exact ⟨i + 1, by omega, _, rfl, by rw [← val_some hkk.val], hr, _, rfl⟩
      case measure => have := sinK_lt i hlt; rw [val_some hkk.val] at this; simpa using this
    · rw [decide_eq_false hlt] at ht
      obtain rfl : i = 8 := by omega
      have ht' : (FloatKind.f64.format.order (sinK 8) 4607182418800017408 == some .gt || FloatKind.f64.format.order (sinK 8) 4607182418800017408 == some .eq) = false := ht
      clear ht
      go_wp2_with (first | (refine wpList_fbin (o := ⟨some 43, _, _, _, _, _⟩) rfl _ _ _ _ _ rfl (by decide) _ _ _ rfl rfl ?_; intro q nq hq; rw [hz.val, hp.val] at hq) | fail)
      go_ret
      refine ⟨_, rfl, ?_, _, rfl⟩
      unfold sineV
      rw [if_pos HB1.out]
      exact FR_neg64 hq

theorem impl_sine_10 (x : Nat) (n : Int) (hn : floatToIntVal .f64 x .i64 = some n) (F : Option Nat) (hF : fracV (val .f64 x) n = F) (b1 : geqV F (some HALF) = true) (b2 : gtV (fold1 F) (some QUARTER) = false) (w : World) :
    Calls Try.prog 32 #[.float .f64 x] w fun e w' => ∃ r, e = .returned (.float .f64 r) ∧ FR .f64 r (sineV F) ∧ ∃ n, w' = w.drewN n := by
  have hF1 : fold1 F = (bin .sub .f64 F (some HALF)) := by unfold fold1; rw [b1]; rfl
  have hF2 : fold2 (fold1 F) = (bin .sub .f64 F (some HALF)) := by unfold fold2; rw [b2, hF1]; rfl
  have b2' := b2
  rw [hF1] at b2'
  have HF : Hid (fracV (val .f64 x) n = F) := hF
  have HB1 : Hid (geqV F (some HALF) = true) := b1
  have HB2 : Hid (gtV (bin .sub .f64 F (some HALF)) (some QUARTER) = false) := b2'
  have HF2 : Hid (fold2 (fold1 F) = (bin .sub .f64 F (some HALF))) := hF2
  clear hF b1 b2 b2' hF1 hF2
  go_enter Try.func32, Try.ntmps32
  go_wp2_with (first | (go_at_call 44; refine (impl_fraction _ n hn _).mono ?_; rintro e w' ⟨f, rfl, hf, nf, rfl⟩; rw [HF.out] at hf; have t1 : (FloatKind.f64.format.order f 4602678819172646912 == some .gt || FloatKind.f64.format.order f 4602678819172646912 == some .eq) = true := (by rw [order_cmp, hf.val, vHALF]; exact HB1.out)) | ((refine wpList_fbin (o := ⟨some 15, _, _, _, _, _⟩) rfl _ _ _ _ _ rfl (by decide) _ _ _ rfl rfl ?_; intro g ng hg; rw [hf.val, vHALF] at hg); have t2 : (FloatKind.f64.format.order g 4598175219545276416 == some .gt) = false := (by rw [order_cmp, hg.val, vQUARTER]; exact HB2.out)) | (refine wpList_fbin (o := ⟨some 21, _, _, _, _, _⟩) rfl _ _ _ _ _ rfl (by decide) _ _ _ rfl rfl ?_; intro z nz hz; rw [hg.val, vTURN, ← HF2.out] at hz) | (refine wpList_fbin (o := ⟨some 24, _, _, _, _, _⟩) rfl _ _ _ _ _ rfl (by decide) _ _ _ rfl rfl ?_; intro u nu hu; rw [hz.val] at hu) | fail)
  go_loopw [7, 8] (fun p k wr => ∃ i : Nat, i ≤ 8 ∧ ∃ pb : Nat, p = .float .f64 pb ∧ k = .float .f64 (sinK i) ∧ FR .f64 pb (sinP (bin .mul .f64 (sinZ F) (sinZ F)) i) ∧ ∃ n, wr = w.drewN n) (fun _ k _ => match k with | .float _ b => b | _ => 0)
  case atStart => exact ⟨0, by omega, _, rfl, rfl, ⟨by decide, vONE⟩, _, rfl⟩
  case round =>
    obtain ⟨i, hi, pb, rfl, rfl, hp, nw, rfl⟩ := hrel
    have ht := sin_test i hi
    by_cases hlt : i < 8
    · rw [decide_eq_true hlt] at ht
      have ht' : (FloatKind.f64.format.order (sinK i) 4607182418800017408 == some .gt || FloatKind.f64.format.order (sinK i) 4607182418800017408 == some .eq) = true := ht
      clear ht
      go_wp2_with (first | (refine wpList_fbin (o := ⟨some 31, _, _, _, _, _⟩) rfl _ _ _ _ _ rfl (by decide) _ _ _ rfl rfl ?_; intro m nm hm; rw [hu.val, hp.val] at hm) | (refine wpList_fbin (o := ⟨some 33, _, _, _, _, _⟩) rfl _ _ _ _ _ rfl (by decide) _ _ _ rfl rfl ?_; intro a na ha; rw [vTWO, vSinK i hi] at ha) | (refine wpList_fbin (o := ⟨some 35, _, _, _, _, _⟩) rfl _ _ _ _ _ rfl (by decide) _ _ _ rfl rfl ?_; intro b nb hb; rw [vTWO, vSinK i hi] at hb) | (refine wpList_fbin (o := ⟨some 36, _, _, _, _, _⟩) rfl _ _ _ _ _ rfl (by decide) _ _ _ rfl rfl ?_; intro c nc hc; rw [hb.val, vONE] at hc) | (refine wpList_fbin (o := ⟨some 37, _, _, _, _, _⟩) rfl _ _ _ _ _ rfl (by decide) _ _ _ rfl rfl ?_; intro d nd hd; rw [ha.val, hc.val, (sin_consts i hlt).1] at hd) | (refine wpList_fbin (o := ⟨some 38, _, _, _, _, _⟩) rfl _ _ _ _ _ rfl (by decide) _ _ _ rfl rfl ?_; intro q nq hq; rw [hm.val, hd.val] at hq) | (refine wpList_fbin (o := ⟨some 39, _, _, _, _, _⟩) rfl _ _ _ _ _ rfl (by decide) _ _ _ rfl rfl ?_; intro r nr hr; rw [vONE, hq.val] at hr) | (refine wpList_fbin (o := ⟨some 28, _, _, _, _, _⟩) rfl _ _ _ _ _ rfl (by decide) _ _ _ rfl rfl ?_; intro kk nkk hkk; rw [vSinK i hi, vONE, (sin_consts i hlt).2.1] at hkk) | fail)
      go_roundw
      case rel => exact ⟨i + 1, by omega, _, rfl, by rw [← val_some hkk.val], hr, _, rfl⟩
      case measure => have := sinK_lt i hlt; rw [val_some hkk.val] at this; simpa using this
    · rw [decide_eq_false hlt] at ht
      obtain rfl : i = 8 := by omega
      have ht' : (FloatKind.f64.format.order (sinK 8) 4607182418800017408 == some .gt || FloatKind.f64.format.order (sinK 8) 4607182418800017408 == some .eq) = false := ht
      clear ht
      go_wp2_with (first | (refine wpList_fbin (o := ⟨some 43, _, _, _, _, _⟩) rfl _ _ _ _ _ rfl (by decide) _ _ _ rfl rfl ?_; intro q nq hq; rw [hz.val, hp.val] at hq) | fail)
      go_ret
      refine ⟨_, rfl, ?_, _, rfl⟩
      unfold sineV
      rw [if_pos HB1.out]
      exact FR_neg64 hq

theorem impl_sine_01 (x : Nat) (n : Int) (hn : floatToIntVal .f64 x .i64 = some n) (F : Option Nat) (hF : fracV (val .f64 x) n = F) (b1 : geqV F (some HALF) = false) (b2 : gtV (fold1 F) (some QUARTER) = true) (w : World) :
    Calls Try.prog 32 #[.float .f64 x] w fun e w' => ∃ r, e = .returned (.float .f64 r) ∧ FR .f64 r (sineV F) ∧ ∃ n, w' = w.drewN n := by
  have hF1 : fold1 F = F := by unfold fold1; rw [b1]; rfl
  have hF2 : fold2 (fold1 F) = (bin .sub .f64 (some HALF) F) := by unfold fold2; rw [b2, hF1]; rfl
  have b2' := b2
  rw [hF1] at b2'
  have HF : Hid (fracV (val .f64 x) n = F) := hF
  have HB1 : Hid (geqV F (some HALF) = false) := b1
  have HB2 : Hid (gtV F (some QUARTER) = true) := b2'
  have HF2 : Hid (fold2 (fold1 F) = (bin .sub .f64 (some HALF) F)) := hF2
  clear hF b1 b2 b2' hF1 hF2
  go_enter Try.func32, Try.ntmps32
  go_wp2_with (first | (go_at_call 44; refine (impl_fraction _ n hn _).mono ?_; rintro e w' ⟨f, rfl, hf, nf, rfl⟩; rw [HF.out] at hf; have t1 : (FloatKind.f64.format.order f 4602678819172646912 == some .gt || FloatKind.f64.format.order f 4602678819172646912 == some .eq) = false := (by rw [order_cmp, hf.val, vHALF]; exact HB1.out); have t2 : (FloatKind.f64.format.order f 4598175219545276416 == some .gt) = true := (by rw [order_cmp, hf.val, vQUARTER]; exact HB2.out)) | (refine wpList_fbin (o := ⟨some 19, _, _, _, _, _⟩) rfl _ _ _ _ _ rfl (by decide) _ _ _ rfl rfl ?_; intro k nk hk; rw [hf.val, vHALF] at hk) | (refine wpList_fbin (o := ⟨some 21, _, _, _, _, _⟩) rfl _ _ _ _ _ rfl (by decide) _ _ _ rfl rfl ?_; intro z nz hz; rw [hk.val, vTURN, ← HF2.out] at hz) | (refine wpList_fbin (o := ⟨some 24, _, _, _, _, _⟩) rfl _ _ _ _ _ rfl (by decide) _ _ _ rfl rfl ?_; intro u nu hu; rw [hz.val] at hu) | fail)
  go_loopw [7, 8] (fun p k wr => ∃ i : Nat, i ≤ 8 ∧ ∃ pb : Nat, p = .float .f64 pb ∧ k = .float .f64 (sinK i) ∧ FR .f64 pb (sinP (bin .mul .f64 (sinZ F) (sinZ F)) i) ∧ ∃ n, wr = w.drewN n) (fun _ k _ => match k with | .float _ b => b | _ => 0)
  case atStart => exact ⟨0, by omega, _, rfl, rfl, ⟨by decide, vONE⟩, _, rfl⟩
  case round =>
    obtain ⟨i, hi, pb, rfl, rfl, hp, nw, rfl⟩ := hrel
    have ht := sin_test i hi
    by_cases hlt : i < 8
    · rw [decide_eq_true hlt] at ht
      have ht' : (FloatKind.f64.format.order (sinK i) 4607182418800017408 == some .gt || FloatKind.f64.format.order (sinK i) 4607182418800017408 == some .eq) = true := ht
      clear ht
      go_wp2_with (first | (refine wpList_fbin (o := ⟨some 31, _, _, _, _, _⟩) rfl _ _ _ _ _ rfl (by decide) _ _ _ rfl rfl ?_; intro m nm hm; rw [hu.val, hp.val] at hm) | (refine wpList_fbin (o := ⟨some 33, _, _, _, _, _⟩) rfl _ _ _ _ _ rfl (by decide) _ _ _ rfl rfl ?_; intro a na ha; rw [vTWO, vSinK i hi] at ha) | (refine wpList_fbin (o := ⟨some 35, _, _, _, _, _⟩) rfl _ _ _ _ _ rfl (by decide) _ _ _ rfl rfl ?_; intro b nb hb; rw [vTWO, vSinK i hi] at hb) | (refine wpList_fbin (o := ⟨some 36, _, _, _, _, _⟩) rfl _ _ _ _ _ rfl (by decide) _ _ _ rfl rfl ?_; intro c nc hc; rw [hb.val, vONE] at hc) | (refine wpList_fbin (o := ⟨some 37, _, _, _, _, _⟩) rfl _ _ _ _ _ rfl (by decide) _ _ _ rfl rfl ?_; intro d nd hd; rw [ha.val, hc.val, (sin_consts i hlt).1] at hd) | (refine wpList_fbin (o := ⟨some 38, _, _, _, _, _⟩) rfl _ _ _ _ _ rfl (by decide) _ _ _ rfl rfl ?_; intro q nq hq; rw [hm.val, hd.val] at hq) | (refine wpList_fbin (o := ⟨some 39, _, _, _, _, _⟩) rfl _ _ _ _ _ rfl (by decide) _ _ _ rfl rfl ?_; intro r nr hr; rw [vONE, hq.val] at hr) | (refine wpList_fbin (o := ⟨some 28, _, _, _, _, _⟩) rfl _ _ _ _ _ rfl (by decide) _ _ _ rfl rfl ?_; intro kk nkk hkk; rw [vSinK i hi, vONE, (sin_consts i hlt).2.1] at hkk) | fail)
      go_roundw
      case rel => exact ⟨i + 1, by omega, _, rfl, by rw [← val_some hkk.val], hr, _, rfl⟩
      case measure => have := sinK_lt i hlt; rw [val_some hkk.val] at this; simpa using this
    · rw [decide_eq_false hlt] at ht
      obtain rfl : i = 8 := by omega
      have ht' : (FloatKind.f64.format.order (sinK 8) 4607182418800017408 == some .gt || FloatKind.f64.format.order (sinK 8) 4607182418800017408 == some .eq) = false := ht
      clear ht
      go_wp2_with (first | (refine wpList_fbin (o := ⟨some 47, _, _, _, _, _⟩) rfl _ _ _ _ _ rfl (by decide) _ _ _ rfl rfl ?_; intro q nq hq; rw [hz.val, hp.val] at hq) | fail)
      go_ret
      refine ⟨_, rfl, ?_, _, rfl⟩
      unfold sineV
      rw [if_neg (by rw [HB1.out]; decide)]
      exact hq

theorem impl_sine_00 (x : Nat) (n : Int) (hn : floatToIntVal .f64 x .i64 = some n) (F : Option Nat) (hF : fracV (val .f64 x) n = F) (b1 : geqV F (some HALF) = false) (b2 : gtV (fold1 F) (some QUARTER) = false) (w : World) :
    Calls Try.prog 32 #[.float .f64 x] w fun e w' => ∃ r, e = .returned (.float .f64 r) ∧ FR .f64 r (sineV F) ∧ ∃ n, w' = w.drewN n := by
  have hF1 : fold1 F = F := by unfold fold1; rw [b1]; rfl
  have hF2 : fold2 (fold1 F) = F := by unfold fold2; rw [b2, hF1]; rfl
  have b2' := b2
  rw [hF1] at b2'
  have HF : Hid (fracV (val .f64 x) n = F) := hF
  have HB1 : Hid (geqV F (some HALF) = false) := b1
  have HB2 : Hid (gtV F (some QUARTER) = false) := b2'
  have HF2 : Hid (fold2 (fold1 F) = F) := hF2
  clear hF b1 b2 b2' hF1 hF2
  go_enter Try.func32, Try.ntmps32
  go_wp2_with (first | (go_at_call 44; refine (impl_fraction _ n hn _).mono ?_; rintro e w' ⟨f, rfl, hf, nf, rfl⟩; rw [HF.out] at hf; have t1 : (FloatKind.f64.format.order f 4602678819172646912 == some .gt || FloatKind.f64.format.order f 4602678819172646912 == some .eq) = false := (by rw [order_cmp, hf.val, vHALF]; exact HB1.out); have t2 : (FloatKind.f64.format.order f 4598175219545276416 == some .gt) = false := (by rw [order_cmp, hf.val, vQUARTER]; exact HB2.out)) | (refine wpList_fbin (o := ⟨some 21, _, _, _, _, _⟩) rfl _ _ _ _ _ rfl (by decide) _ _ _ rfl rfl ?_; intro z nz hz; rw [hf.val, vTURN, ← HF2.out] at hz) | (refine wpList_fbin (o := ⟨some 24, _, _, _, _, _⟩) rfl _ _ _ _ _ rfl (by decide) _ _ _ rfl rfl ?_; intro u nu hu; rw [hz.val] at hu) | fail)
  go_loopw [7, 8] (fun p k wr => ∃ i : Nat, i ≤ 8 ∧ ∃ pb : Nat, p = .float .f64 pb ∧ k = .float .f64 (sinK i) ∧ FR .f64 pb (sinP (bin .mul .f64 (sinZ F) (sinZ F)) i) ∧ ∃ n, wr = w.drewN n) (fun _ k _ => match k with | .float _ b => b | _ => 0)
  case atStart => exact ⟨0, by omega, _, rfl, rfl, ⟨by decide, vONE⟩, _, rfl⟩
  case round =>
    obtain ⟨i, hi, pb, rfl, rfl, hp, nw, rfl⟩ := hrel
    have ht := sin_test i hi
    by_cases hlt : i < 8
    · rw [decide_eq_true hlt] at ht
      have ht' : (FloatKind.f64.format.order (sinK i) 4607182418800017408 == some .gt || FloatKind.f64.format.order (sinK i) 4607182418800017408 == some .eq) = true := ht
      clear ht
      go_wp2_with (first | (refine wpList_fbin (o := ⟨some 31, _, _, _, _, _⟩) rfl _ _ _ _ _ rfl (by decide) _ _ _ rfl rfl ?_; intro m nm hm; rw [hu.val, hp.val] at hm) | (refine wpList_fbin (o := ⟨some 33, _, _, _, _, _⟩) rfl _ _ _ _ _ rfl (by decide) _ _ _ rfl rfl ?_; intro a na ha; rw [vTWO, vSinK i hi] at ha) | (refine wpList_fbin (o := ⟨some 35, _, _, _, _, _⟩) rfl _ _ _ _ _ rfl (by decide) _ _ _ rfl rfl ?_; intro b nb hb; rw [vTWO, vSinK i hi] at hb) | (refine wpList_fbin (o := ⟨some 36, _, _, _, _, _⟩) rfl _ _ _ _ _ rfl (by decide) _ _ _ rfl rfl ?_; intro c nc hc; rw [hb.val, vONE] at hc) | (refine wpList_fbin (o := ⟨some 37, _, _, _, _, _⟩) rfl _ _ _ _ _ rfl (by decide) _ _ _ rfl rfl ?_; intro d nd hd; rw [ha.val, hc.val, (sin_consts i hlt).1] at hd) | (refine wpList_fbin (o := ⟨some 38, _, _, _, _, _⟩) rfl _ _ _ _ _ rfl (by decide) _ _ _ rfl rfl ?_; intro q nq hq; rw [hm.val, hd.val] at hq) | (refine wpList_fbin (o := ⟨some 39, _, _, _, _, _⟩) rfl _ _ _ _ _ rfl (by decide) _ _ _ rfl rfl ?_; intro r nr hr; rw [vONE, hq.val] at hr) | (refine wpList_fbin (o := ⟨some 28, _, _, _, _, _⟩) rfl _ _ _ _ _ rfl (by decide) _ _ _ rfl rfl ?_; intro kk nkk hkk; rw [vSinK i hi, vONE, (sin_consts i hlt).2.1] at hkk) | fail)
      go_roundw
      case rel => exact ⟨i + 1, by omega, _, rfl, by rw [← val_some hkk.val], hr, _, rfl⟩
      case measure => have := sinK_lt i hlt; rw [val_some hkk.val] at this; simpa using this
    · rw [decide_eq_false hlt] at ht
      obtain rfl : i = 8 := by omega
      have ht' : (FloatKind.f64.format.order (sinK 8) 4607182418800017408 == some .gt || FloatKind.f64.format.order (sinK 8) 4607182418800017408 == some .eq) = false := ht
      clear ht
      go_wp2_with (first | (refine wpList_fbin (o := ⟨some 47, _, _, _, _, _⟩) rfl _ _ _ _ _ rfl (by decide) _ _ _ rfl rfl ?_; intro q nq hq; rw [hz.val, hp.val] at hq) | fail)
      go_ret
      refine ⟨_, rfl, ?_, _, rfl⟩
      unfold sineV
      rw [if_neg (by rw [HB1.out]; decide)]
      exact hq

theorem impl_sine (x : Nat) (n : Int) (hn : floatToIntVal .f64 x .i64 = some n) (w : World) :
    Calls Try.prog 32 #[.float .f64 x] w fun e w' => ∃ r, e = .returned (.float .f64 r) ∧ FR .f64 r (sineV (fracV (val .f64 x) n)) ∧ ∃ n, w' = w.drewN n := by
  cases b1 : geqV (fracV (val .f64 x) n) (some HALF) <;> cases b2 : gtV (fold1 (fracV (val .f64 x) n)) (some QUARTER)
  · exact impl_sine_00 x n hn _ rfl b1 b2 w
  · exact impl_sine_01 x n hn _ rfl b1 b2 w
  · exact impl_sine_10 x n hn _ rfl b1 b2 w
  · exact impl_sine_11 x n hn _ rfl b1 b2 w

end Go.Proofs.Ytmbfdpplkbdpiab
