/-
  Contracts: the sine of a number of turns, the reference's side.
-/
import Derived.Test.YtmbfdpplkbdpiabB2
namespace Go.Proofs.Ytmbfdpplkbdpiab
open Fl Ieee Go.RowKit
set_option linter.unusedVariables false

theorem sin_wrap : ∀ i : Nat, i < 8 → floatOfInt .f64 (wrap64 (2 * (8 - (i : Int)) * (2 * (8 - (i : Int)) + 1))) = sinC i := by
  intro i hi
  match i, hi with
  | 0, _ => decide +kernel
  | 1, _ => decide +kernel
  | 2, _ => decide +kernel
  | 3, _ => decide +kernel
  | 4, _ => decide +kernel
  | 5, _ => decide +kernel
  | 6, _ => decide +kernel
  | 7, _ => decide +kernel

theorem spec_sine_111 (x : Nat) (n : Int) (hn : floatToIntVal .f64 x .i64 = some n) (hfin : cmp .f64 (bin .sub .f64 (val .f64 x) (val .f64 x)) (some 0) = some .eq) (hhi : (FloatKind.f64.format.order x 4841369599423283200 == some .gt || FloatKind.f64.format.order x 4841369599423283200 == some .eq) = false) (hlo : (FloatKind.f64.format.order x 14064741636278059008 == some .lt || FloatKind.f64.format.order x 14064741636278059008 == some .eq) = false) (F : Option Nat) (hF : fracV (val .f64 x) n = F) (b1 : geqV F (some HALF) = true) (b2 : gtV (fold1 F) (some QUARTER) = true) (b0 : ltV (bin .sub .f64 (val .f64 x) (some (floatOfInt .f64 n))) (some 0) = true) (w : World) :
    Calls Try.prog 43 #[.float .f64 x] w fun e w' => ∃ r, e = .returned (.float .f64 r) ∧ FR .f64 r (sineV F) ∧ ∃ n, w' = w.drewN n := by
  have hc : ∀ w, (convert 25 2 (.float .f64 x)).run Try.prog w = .ok (.int .i64 n) w := fun w => run_convert_float_int w 25 2 .f64 .i64 x n (by kernel_rfl) (by kernel_rfl) hn
  have HFIN : Hid (cmp .f64 (bin .sub .f64 (val .f64 x) (val .f64 x)) (some 0) = some .eq) := hfin
  have HB0 : Hid (ltV (bin .sub .f64 (val .f64 x) (some (floatOfInt .f64 n))) (some 0) = true) := b0
  have HF0 : Hid (fracV (val .f64 x) n = bin .add .f64 (bin .sub .f64 (val .f64 x) (some (floatOfInt .f64 n))) (some ONE)) := by unfold Hid fracV; dsimp only; rw [b0]; rfl
  have hF1 : fold1 F = (bin .sub .f64 F (some HALF)) := by unfold fold1; rw [b1]; rfl
  have hF2 : fold2 (fold1 F) = (bin .sub .f64 (some HALF) (bin .sub .f64 F (some HALF))) := by unfold fold2; rw [b2, hF1]; rfl
  have b2' := b2
  rw [hF1] at b2'
  have HF : Hid (fracV (val .f64 x) n = F) := hF
  have HB1 : Hid (geqV F (some HALF) = true) := b1
  have HB2 : Hid (gtV (bin .sub .f64 F (some HALF)) (some QUARTER) = true) := b2'
  have HF2 : Hid (fold2 (fold1 F) = (bin .sub .f64 (some HALF) (bin .sub .f64 F (some HALF)))) := hF2
  clear hF b1 b2 b2' hF1 hF2 b0 hfin hn
  go_enter Try.func43, Try.ntmps43
  go_wp2_with (first | ((refine wpList_fbin (o := ⟨some 11, _, _, _, _, _⟩) rfl _ _ _ _ _ rfl (by decide) _ _ _ rfl rfl ?_; intro y ny hy); have ty : (FloatKind.f64.format.order y 0 != some .eq) = false := (by rw [order_cmp, hy.val, vZERO, HFIN.out]; rfl)) | ((refine wpList_fbin (o := ⟨some 24, _, _, _, _, _⟩) rfl _ _ _ _ _ rfl (by decide) _ _ _ rfl rfl ?_; intro f nf hf; rw [val_ofInt] at hf); have t0 : (FloatKind.f64.format.order f 0 == some .lt) = true := (by rw [order_cmp, hf.val, vZERO]; exact HB0.out)) | ((refine wpList_fbin (o := ⟨some 28, _, _, _, _, _⟩) rfl _ _ _ _ _ rfl (by decide) _ _ _ rfl rfl ?_; intro e ne he; rw [hf.val, vONE, ← HF0.out, HF.out] at he); have t1 : (FloatKind.f64.format.order e 4602678819172646912 == some .gt || FloatKind.f64.format.order e 4602678819172646912 == some .eq) = true := (by rw [order_cmp, he.val, vHALF]; exact HB1.out)) | ((refine wpList_fbin (o := ⟨some 33, _, _, _, _, _⟩) rfl _ _ _ _ _ rfl (by decide) _ _ _ rfl rfl ?_; intro g ng hg; rw [he.val, vHALF] at hg); have t2 : (FloatKind.f64.format.order g 4598175219545276416 == some .gt) = true := (by rw [order_cmp, hg.val, vQUARTER]; exact HB2.out)) | (refine wpList_fbin (o := ⟨some 37, _, _, _, _, _⟩) rfl _ _ _ _ _ rfl (by decide) _ _ _ rfl rfl ?_; intro k nk hk; rw [hg.val, vHALF] at hk) | (refine wpList_fbin (o := ⟨some 39, _, _, _, _, _⟩) rfl _ _ _ _ _ rfl (by decide) _ _ _ rfl rfl ?_; intro z nz hz; rw [hk.val, vTURN, ← HF2.out] at hz) | (refine wpList_fbin (o := ⟨some 42, _, _, _, _, _⟩) rfl _ _ _ _ _ rfl (by decide) _ _ _ rfl rfl ?_; intro u nu hu; rw [hz.val] at hu) | fail)
  go_loopw [7, 8] (fun p k wr => ∃ i : Nat, i ≤ 8 ∧ ∃ pb : Nat, p = .float .f64 pb ∧ k = .int .i64 (8 - (i : Int)) ∧ FR .f64 pb (sinP (bin .mul .f64 (sinZ F) (sinZ F)) i) ∧ ∃ n, wr = w.drewN n) (fun _ k _ => (intOf k).toNat)
  case atStart => exact ⟨0, by omega, _, rfl, rfl, ⟨by decide, vONE⟩, _, rfl⟩
  case round =>
    obtain ⟨i, hi, pb, rfl, rfl, hp, nw, rfl⟩ := hrel

    by_cases hlt : i < 8
    · have hb1 : (1 : Int) ≤ 8 - (i : Int) := by omega
      have hb8 : (8 : Int) - (i : Int) ≤ 8 := by omega
      go_wp2_with (first | (refine wpList_fbin (o := ⟨some 49, _, _, _, _, _⟩) rfl _ _ _ _ _ rfl (by decide) _ _ _ rfl rfl ?_; intro m nm hm; rw [hu.val, hp.val] at hm) | (refine wpList_fbin (o := ⟨some 57, _, _, _, _, _⟩) rfl _ _ _ _ _ rfl (by decide) _ _ _ rfl rfl ?_; intro q nq hq; rw [hm.val, val_ofInt, sin_wrap i hlt] at hq) | (refine wpList_fbin (o := ⟨some 58, _, _, _, _, _⟩) rfl _ _ _ _ _ rfl (by decide) _ _ _ rfl rfl ?_; intro r nr hr; rw [vONE, hq.val] at hr) | fail)
      go_roundw
      case rel => exact ⟨i + 1, by omega, _, rfl, by congr 1; omega, hr, _, rfl⟩
      case measure => simp [intOf]; omega
    · obtain rfl : i = 8 := by omega
      go_wp2_with (first | (refine wpList_fbin (o := ⟨some 62, _, _, _, _, _⟩) rfl _ _ _ _ _ rfl (by decide) _ _ _ rfl rfl ?_; intro q nq hq; rw [hz.val, hp.val] at hq) | fail)
      go_ret
      refine ⟨_, rfl, ?_, _, rfl⟩
      unfold sineV
      rw [if_pos HB1.out]
      exact FR_neg64 hq

theorem spec_sine_110 (x : Nat) (n : Int) (hn : floatToIntVal .f64 x .i64 = some n) (hfin : cmp .f64 (bin .sub .f64 (val .f64 x) (val .f64 x)) (some 0) = some .eq) (hhi : (FloatKind.f64.format.order x 4841369599423283200 == some .gt || FloatKind.f64.format.order x 4841369599423283200 == some .eq) = false) (hlo : (FloatKind.f64.format.order x 14064741636278059008 == some .lt || FloatKind.f64.format.order x 14064741636278059008 == some .eq) = false) (F : Option Nat) (hF : fracV (val .f64 x) n = F) (b1 : geqV F (some HALF) = true) (b2 : gtV (fold1 F) (some QUARTER) = false) (b0 : ltV (bin .sub .f64 (val .f64 x) (some (floatOfInt .f64 n))) (some 0) = true) (w : World) :
    Calls Try.prog 43 #[.float .f64 x] w fun e w' => ∃ r, e = .returned (.float .f64 r) ∧ FR .f64 r (sineV F) ∧ ∃ n, w' = w.drewN n := by
  have hc : ∀ w, (convert 25 2 (.float .f64 x)).run Try.prog w = .ok (.int .i64 n) w := fun w => run_convert_float_int w 25 2 .f64 .i64 x n (by kernel_rfl) (by kernel_rfl) hn
  have HFIN : Hid (cmp .f64 (bin .sub .f64 (val .f64 x) (val .f64 x)) (some 0) = some .eq) := hfin
  have HB0 : Hid (ltV (bin .sub .f64 (val .f64 x) (some (floatOfInt .f64 n))) (some 0) = true) := b0
  have HF0 : Hid (fracV (val .f64 x) n = bin .add .f64 (bin .sub .f64 (val .f64 x) (some (floatOfInt .f64 n))) (some ONE)) := by unfold Hid fracV; dsimp only; rw [b0]; rfl
  have hF1 : fold1 F = (bin .sub .f64 F (some HALF)) := by unfold fold1; rw [b1]; rfl
  have hF2 : fold2 (fold1 F) = (bin .sub .f64 F (some HALF)) := by unfold fold2; rw [b2, hF1]; rfl
  have b2' := b2
  rw [hF1] at b2'
  have HF : Hid (fracV (val .f64 x) n = F) := hF
  have HB1 : Hid (geqV F (some HALF) = true) := b1
  have HB2 : Hid (gtV (bin .sub .f64 F (some HALF)) (some QUARTER) = false) := b2'
  have HF2 : Hid (fold2 (fold1 F) = (bin .sub .f64 F (some HALF))) := hF2
  clear hF b1 b2 b2' hF1 hF2 b0 hfin hn
  go_enter Try.func43, Try.ntmps43
  go_wp2_with (first | ((refine wpList_fbin (o := ⟨some 11, _, _, _, _, _⟩) rfl _ _ _ _ _ rfl (by decide) _ _ _ rfl rfl ?_; intro y ny hy); have ty : (FloatKind.f64.format.order y 0 != some .eq) = false := (by rw [order_cmp, hy.val, vZERO, HFIN.out]; rfl)) | ((refine wpList_fbin (o := ⟨some 24, _, _, _, _, _⟩) rfl _ _ _ _ _ rfl (by decide) _ _ _ rfl rfl ?_; intro f nf hf; rw [val_ofInt] at hf); have t0 : (FloatKind.f64.format.order f 0 == some .lt) = true := (by rw [order_cmp, hf.val, vZERO]; exact HB0.out)) | ((refine wpList_fbin (o := ⟨some 28, _, _, _, _, _⟩) rfl _ _ _ _ _ rfl (by decide) _ _ _ rfl rfl ?_; intro e ne he; rw [hf.val, vONE, ← HF0.out, HF.out] at he); have t1 : (FloatKind.f64.format.order e 4602678819172646912 == some .gt || FloatKind.f64.format.order e 4602678819172646912 == some .eq) = true := (by rw [order_cmp, he.val, vHALF]; exact HB1.out)) | ((refine wpList_fbin (o := ⟨some 33, _, _, _, _, _⟩) rfl _ _ _ _ _ rfl (by decide) _ _ _ rfl rfl ?_; intro g ng hg; rw [he.val, vHALF] at hg); have t2 : (FloatKind.f64.format.order g 4598175219545276416 == some .gt) = false := (by rw [order_cmp, hg.val, vQUARTER]; exact HB2.out)) | (refine wpList_fbin (o := ⟨some 39, _, _, _, _, _⟩) rfl _ _ _ _ _ rfl (by decide) _ _ _ rfl rfl ?_; intro z nz hz; rw [hg.val, vTURN, ← HF2.out] at hz) | (refine wpList_fbin (o := ⟨some 42, _, _, _, _, _⟩) rfl _ _ _ _ _ rfl (by decide) _ _ _ rfl rfl ?_; intro u nu hu; rw [hz.val] at hu) | fail)
  go_loopw [7, 8] (fun p k wr => ∃ i : Nat, i ≤ 8 ∧ ∃ pb : Nat, p = .float .f64 pb ∧ k = .int .i64 (8 - (i : Int)) ∧ FR .f64 pb (sinP (bin .mul .f64 (sinZ F) (sinZ F)) i) ∧ ∃ n, wr = w.drewN n) (fun _ k _ => (intOf k).toNat)
  case atStart => exact ⟨0, by omega, _, rfl, rfl, ⟨by decide, vONE⟩, _, rfl⟩
  case round =>
    obtain ⟨i, hi, pb, rfl, rfl, hp, nw, rfl⟩ := hrel

    by_cases hlt : i < 8
    · have hb1 : (1 : Int) ≤ 8 - (i : Int) := by omega
      have hb8 : (8 : Int) - (i : Int) ≤ 8 := by omega
      go_wp2_with (first | (refine wpList_fbin (o := ⟨some 49, _, _, _, _, _⟩) rfl _ _ _ _ _ rfl (by decide) _ _ _ rfl rfl ?_; intro m nm hm; rw [hu.val, hp.val] at hm) | (refine wpList_fbin (o := ⟨some 57, _, _, _, _, _⟩) rfl _ _ _ _ _ rfl (by decide) _ _ _ rfl rfl ?_; intro q nq hq; rw [hm.val, val_ofInt, sin_wrap i hlt] at hq) | (refine wpList_fbin (o := ⟨some 58, _, _, _, _, _⟩) rfl _ _ _ _ _ rfl (by decide) _ _ _ rfl rfl ?_; intro r nr hr; rw [vONE, hq.val] at hr) | fail)
      go_roundw
      case rel => exact ⟨i + 1, by omega, _, rfl, by congr 1; omega, hr, _, rfl⟩
      case measure => simp [intOf]; omega
    · obtain rfl : i = 8 := by omega
      go_wp2_with (first | (refine wpList_fbin (o := ⟨some 62, _, _, _, _, _⟩) rfl _ _ _ _ _ rfl (by decide) _ _ _ rfl rfl ?_; intro q nq hq; rw [hz.val, hp.val] at hq) | fail)
      go_ret
      refine ⟨_, rfl, ?_, _, rfl⟩
      unfold sineV
      rw [if_pos HB1.out]
      exact FR_neg64 hq

theorem spec_sine_101 (x : Nat) (n : Int) (hn : floatToIntVal .f64 x .i64 = some n) (hfin : cmp .f64 (bin .sub .f64 (val .f64 x) (val .f64 x)) (some 0) = some .eq) (hhi : (FloatKind.f64.format.order x 4841369599423283200 == some .gt || FloatKind.f64.format.order x 4841369599423283200 == some .eq) = false) (hlo : (FloatKind.f64.format.order x 14064741636278059008 == some .lt || FloatKind.f64.format.order x 14064741636278059008 == some .eq) = false) (F : Option Nat) (hF : fracV (val .f64 x) n = F) (b1 : geqV F (some HALF) = false) (b2 : gtV (fold1 F) (some QUARTER) = true) (b0 : ltV (bin .sub .f64 (val .f64 x) (some (floatOfInt .f64 n))) (some 0) = true) (w : World) :
    Calls Try.prog 43 #[.float .f64 x] w fun e w' => ∃ r, e = .returned (.float .f64 r) ∧ FR .f64 r (sineV F) ∧ ∃ n, w' = w.drewN n := by
  have hc : ∀ w, (convert 25 2 (.float .f64 x)).run Try.prog w = .ok (.int .i64 n) w := fun w => run_convert_float_int w 25 2 .f64 .i64 x n (by kernel_rfl) (by kernel_rfl) hn
  have HFIN : Hid (cmp .f64 (bin .sub .f64 (val .f64 x) (val .f64 x)) (some 0) = some .eq) := hfin
  have HB0 : Hid (ltV (bin .sub .f64 (val .f64 x) (some (floatOfInt .f64 n))) (some 0) = true) := b0
  have HF0 : Hid (fracV (val .f64 x) n = bin .add .f64 (bin .sub .f64 (val .f64 x) (some (floatOfInt .f64 n))) (some ONE)) := by unfold Hid fracV; dsimp only; rw [b0]; rfl
  have hF1 : fold1 F = F := by unfold fold1; rw [b1]; rfl
  have hF2 : fold2 (fold1 F) = (bin .sub .f64 (some HALF) F) := by unfold fold2; rw [b2, hF1]; rfl
  have b2' := b2
  rw [hF1] at b2'
  have HF : Hid (fracV (val .f64 x) n = F) := hF
  have HB1 : Hid (geqV F (some HALF) = false) := b1
  have HB2 : Hid (gtV F (some QUARTER) = true) := b2'
  have HF2 : Hid (fold2 (fold1 F) = (bin .sub .f64 (some HALF) F)) := hF2
  clear hF b1 b2 b2' hF1 hF2 b0 hfin hn
  go_enter Try.func43, Try.ntmps43
  go_wp2_with (first | ((refine wpList_fbin (o := ⟨some 11, _, _, _, _, _⟩) rfl _ _ _ _ _ rfl (by decide) _ _ _ rfl rfl ?_; intro y ny hy); have ty : (FloatKind.f64.format.order y 0 != some .eq) = false := (by rw [order_cmp, hy.val, vZERO, HFIN.out]; rfl)) | ((refine wpList_fbin (o := ⟨some 24, _, _, _, _, _⟩) rfl _ _ _ _ _ rfl (by decide) _ _ _ rfl rfl ?_; intro f nf hf; rw [val_ofInt] at hf); have t0 : (FloatKind.f64.format.order f 0 == some .lt) = true := (by rw [order_cmp, hf.val, vZERO]; exact HB0.out)) | ((refine wpList_fbin (o := ⟨some 28, _, _, _, _, _⟩) rfl _ _ _ _ _ rfl (by decide) _ _ _ rfl rfl ?_; intro e ne he; rw [hf.val, vONE, ← HF0.out, HF.out] at he); have t1 : (FloatKind.f64.format.order e 4602678819172646912 == some .gt || FloatKind.f64.format.order e 4602678819172646912 == some .eq) = false := (by rw [order_cmp, he.val, vHALF]; exact HB1.out); have t2 : (FloatKind.f64.format.order e 4598175219545276416 == some .gt) = true := (by rw [order_cmp, he.val, vQUARTER]; exact HB2.out)) | (refine wpList_fbin (o := ⟨some 37, _, _, _, _, _⟩) rfl _ _ _ _ _ rfl (by decide) _ _ _ rfl rfl ?_; intro k nk hk; rw [he.val, vHALF] at hk) | (refine wpList_fbin (o := ⟨some 39, _, _, _, _, _⟩) rfl _ _ _ _ _ rfl (by decide) _ _ _ rfl rfl ?_; intro z nz hz; rw [hk.val, vTURN, ← HF2.out] at hz) | (refine wpList_fbin (o := ⟨some 42, _, _, _, _, _⟩) rfl _ _ _ _ _ rfl (by decide) _ _ _ rfl rfl ?_; intro u nu hu; rw [hz.val] at hu) | fail)
  go_loopw [7, 8] (fun p k wr => ∃ i : Nat, i ≤ 8 ∧ ∃ pb : Nat, p = .float .f64 pb ∧ k = .int .i64 (8 - (i : Int)) ∧ FR .f64 pb (sinP (bin .mul .f64 (sinZ F) (sinZ F)) i) ∧ ∃ n, wr = w.drewN n) (fun _ k _ => (intOf k).toNat)
  case atStart => exact ⟨0, by omega, _, rfl, rfl, ⟨by decide, vONE⟩, _, rfl⟩
  case round =>
    obtain ⟨i, hi, pb, rfl, rfl, hp, nw, rfl⟩ := hrel

    by_cases hlt : i < 8
    · have hb1 : (1 : Int) ≤ 8 - (i : Int) := by omega
      have hb8 : (8 : Int) - (i : Int) ≤ 8 := by omega
      go_wp2_with (first | (refine wpList_fbin (o := ⟨some 49, _, _, _, _, _⟩) rfl _ _ _ _ _ rfl (by decide) _ _ _ rfl rfl ?_; intro m nm hm; rw [hu.val, hp.val] at hm) | (refine wpList_fbin (o := ⟨some 57, _, _, _, _, _⟩) rfl _ _ _ _ _ rfl (by decide) _ _ _ rfl rfl ?_; intro q nq hq; rw [hm.val, val_ofInt, sin_wrap i hlt] at hq) | (refine wpList_fbin (o := ⟨some 58, _, _, _, _, _⟩) rfl _ _ _ _ _ rfl (by decide) _ _ _ rfl rfl ?_; intro r nr hr; rw [vONE, hq.val] at hr) | fail)
      go_roundw
      case rel => exact ⟨i + 1, by omega, _, rfl, by congr 1; omega, hr, _, rfl⟩
      case measure => simp [intOf]; omega
    · obtain rfl : i = 8 := by omega
      go_wp2_with (first | (refine wpList_fbin (o := ⟨some 66, _, _, _, _, _⟩) rfl _ _ _ _ _ rfl (by decide) _ _ _ rfl rfl ?_; intro q nq hq; rw [hz.val, hp.val] at hq) | fail)
      go_ret
      refine ⟨_, rfl, ?_, _, rfl⟩
      unfold sineV
      rw [if_neg (by rw [HB1.out]; decide)]
      exact hq

theorem spec_sine_100 (x : Nat) (n : Int) (hn : floatToIntVal .f64 x .i64 = some n) (hfin : cmp .f64 (bin .sub .f64 (val .f64 x) (val .f64 x)) (some 0) = some .eq) (hhi : (FloatKind.f64.format.order x 4841369599423283200 == some .gt || FloatKind.f64.format.order x 4841369599423283200 == some .eq) = false) (hlo : (FloatKind.f64.format.order x 14064741636278059008 == some .lt || FloatKind.f64.format.order x 14064741636278059008 == some .eq) = false) (F : Option Nat) (hF : fracV (val .f64 x) n = F) (b1 : geqV F (some HALF) = false) (b2 : gtV (fold1 F) (some QUARTER) = false) (b0 : ltV (bin .sub .f64 (val .f64 x) (some (floatOfInt .f64 n))) (some 0) = true) (w : World) :
    Calls Try.prog 43 #[.float .f64 x] w fun e w' => ∃ r, e = .returned (.float .f64 r) ∧ FR .f64 r (sineV F) ∧ ∃ n, w' = w.drewN n := by
  have hc : ∀ w, (convert 25 2 (.float .f64 x)).run Try.prog w = .ok (.int .i64 n) w := fun w => run_convert_float_int w 25 2 .f64 .i64 x n (by kernel_rfl) (by kernel_rfl) hn
  have HFIN : Hid (cmp .f64 (bin .sub .f64 (val .f64 x) (val .f64 x)) (some 0) = some .eq) := hfin
  have HB0 : Hid (ltV (bin .sub .f64 (val .f64 x) (some (floatOfInt .f64 n))) (some 0) = true) := b0
  have HF0 : Hid (fracV (val .f64 x) n = bin .add .f64 (bin .sub .f64 (val .f64 x) (some (floatOfInt .f64 n))) (some ONE)) := by unfold Hid fracV; dsimp only; rw [b0]; rfl
  have hF1 : fold1 F = F := by unfold fold1; rw [b1]; rfl
  have hF2 : fold2 (fold1 F) = F := by unfold fold2; rw [b2, hF1]; rfl
  have b2' := b2
  rw [hF1] at b2'
  have HF : Hid (fracV (val .f64 x) n = F) := hF
  have HB1 : Hid (geqV F (some HALF) = false) := b1
  have HB2 : Hid (gtV F (some QUARTER) = false) := b2'
  have HF2 : Hid (fold2 (fold1 F) = F) := hF2
  clear hF b1 b2 b2' hF1 hF2 b0 hfin hn
  go_enter Try.func43, Try.ntmps43
  go_wp2_with (first | ((refine wpList_fbin (o := ⟨some 11, _, _, _, _, _⟩) rfl _ _ _ _ _ rfl (by decide) _ _ _ rfl rfl ?_; intro y ny hy); have ty : (FloatKind.f64.format.order y 0 != some .eq) = false := (by rw [order_cmp, hy.val, vZERO, HFIN.out]; rfl)) | ((refine wpList_fbin (o := ⟨some 24, _, _, _, _, _⟩) rfl _ _ _ _ _ rfl (by decide) _ _ _ rfl rfl ?_; intro f nf hf; rw [val_ofInt] at hf); have t0 : (FloatKind.f64.format.order f 0 == some .lt) = true := (by rw [order_cmp, hf.val, vZERO]; exact HB0.out)) | ((refine wpList_fbin (o := ⟨some 28, _, _, _, _, _⟩) rfl _ _ _ _ _ rfl (by decide) _ _ _ rfl rfl ?_; intro e ne he; rw [hf.val, vONE, ← HF0.out, HF.out] at he); have t1 : (FloatKind.f64.format.order e 4602678819172646912 == some .gt || FloatKind.f64.format.order e 4602678819172646912 == some .eq) = false := (by rw [order_cmp, he.val, vHALF]; exact HB1.out); have t2 : (FloatKind.f64.format.order e 4598175219545276416 == some .gt) = false := (by rw [order_cmp, he.val, vQUARTER]; exact HB2.out)) | (refine wpList_fbin (o := ⟨some 39, _, _, _, _, _⟩) rfl _ _ _ _ _ rfl (by decide) _ _ _ rfl rfl ?_; intro z nz hz; rw [he.val, vTURN, ← HF2.out] at hz) | (refine wpList_fbin (o := ⟨some 42, _, _, _, _, _⟩) rfl _ _ _ _ _ rfl (by decide) _ _ _ rfl rfl ?_; intro u nu hu; rw [hz.val] at hu) | fail)
  go_loopw [7, 8] (fun p k wr => ∃ i : Nat, i ≤ 8 ∧ ∃ pb : Nat, p = .float .f64 pb ∧ k = .int .i64 (8 - (i : Int)) ∧ FR .f64 pb (sinP (bin .mul .f64 (sinZ F) (sinZ F)) i) ∧ ∃ n, wr = w.drewN n) (fun _ k _ => (intOf k).toNat)
  case atStart => exact ⟨0, by omega, _, rfl, rfl, ⟨by decide, vONE⟩, _, rfl⟩
  case round =>
    obtain ⟨i, hi, pb, rfl, rfl, hp, nw, rfl⟩ := hrel

    by_cases hlt : i < 8
    · have hb1 : (1 : Int) ≤ 8 - (i : Int) := by omega
      have hb8 : (8 : Int) - (i : Int) ≤ 8 := by omega
      go_wp2_with (first | (refine wpList_fbin (o := ⟨some 49, _, _, _, _, _⟩) rfl _ _ _ _ _ rfl (by decide) _ _ _ rfl rfl ?_; intro m nm hm; rw [hu.val, hp.val] at hm) | (refine wpList_fbin (o := ⟨some 57, _, _, _, _, _⟩) rfl _ _ _ _ _ rfl (by decide) _ _ _ rfl rfl ?_; intro q nq hq; rw [hm.val, val_ofInt, sin_wrap i hlt] at hq) | (refine wpList_fbin (o := ⟨some 58, _, _, _, _, _⟩) rfl _ _ _ _ _ rfl (by decide) _ _ _ rfl rfl ?_; intro r nr hr; rw [vONE, hq.val] at hr) | fail)
      go_roundw
      case rel => exact ⟨i + 1, by omega, _, rfl, by congr 1; omega, hr, _, rfl⟩
      case measure => simp [intOf]; omega
    · obtain rfl : i = 8 := by omega
      go_wp2_with (first | (refine wpList_fbin (o := ⟨some 66, _, _, _, _, _⟩) rfl _ _ _ _ _ rfl (by decide) _ _ _ rfl rfl ?_; intro q nq hq; rw [hz.val, hp.val] at hq) | fail)
      go_ret
      refine ⟨_, rfl, ?_, _, rfl⟩
      unfold sineV
      rw [if_neg (by rw [HB1.out]; decide)]
      exact hq

theorem spec_sine_011 (x : Nat) (n : Int) (hn : floatToIntVal .f64 x .i64 = some n) (hfin : cmp .f64 (bin .sub .f64 (val .f64 x) (val .f64 x)) (some 0) = some .eq) (hhi : (FloatKind.f64.format.order x 4841369599423283200 == some .gt || FloatKind.f64.format.order x 4841369599423283200 == some .eq) = false) (hlo : (FloatKind.f64.format.order x 14064741636278059008 == some .lt || FloatKind.f64.format.order x 14064741636278059008 == some .eq) = false) (F : Option Nat) (hF : fracV (val .f64 x) n = F) (b1 : geqV F (some HALF) = true) (b2 : gtV (fold1 F) (some QUARTER) = true) (b0 : ltV (bin .sub .f64 (val .f64 x) (some (floatOfInt .f64 n))) (some 0) = false) (w : World) :
    Calls Try.prog 43 #[.float .f64 x] w fun e w' => ∃ r, e = .returned (.float .f64 r) ∧ FR .f64 r (sineV F) ∧ ∃ n, w' = w.drewN n := by
  have hc : ∀ w, (convert 25 2 (.float .f64 x)).run Try.prog w = .ok (.int .i64 n) w := fun w => run_convert_float_int w 25 2 .f64 .i64 x n (by kernel_rfl) (by kernel_rfl) hn
  have HFIN : Hid (cmp .f64 (bin .sub .f64 (val .f64 x) (val .f64 x)) (some 0) = some .eq) := hfin
  have HB0 : Hid (ltV (bin .sub .f64 (val .f64 x) (some (floatOfInt .f64 n))) (some 0) = false) := b0
  have HF0 : Hid (fracV (val .f64 x) n = bin .sub .f64 (val .f64 x) (some (floatOfInt .f64 n))) := by unfold Hid fracV; dsimp only; rw [b0]; rfl
  have hF1 : fold1 F = (bin .sub .f64 F (some HALF)) := by unfold fold1; rw [b1]; rfl
  have hF2 : fold2 (fold1 F) = (bin .sub .f64 (some HALF) (bin .sub .f64 F (some HALF))) := by unfold fold2; rw [b2, hF1]; rfl
  have b2' := b2
  rw [hF1] at b2'
  have HF : Hid (fracV (val .f64 x) n = F) := hF
  have HB1 : Hid (geqV F (some HALF) = true) := b1
  have HB2 : Hid (gtV (bin .sub .f64 F (some HALF)) (some QUARTER) = true) := b2'
  have HF2 : Hid (fold2 (fold1 F) = (bin .sub .f64 (some HALF) (bin .sub .f64 F (some HALF)))) := hF2
  clear hF b1 b2 b2' hF1 hF2 b0 hfin hn
  go_enter Try.func43, Try.ntmps43
  go_wp2_with (first | ((refine wpList_fbin (o := ⟨some 11, _, _, _, _, _⟩) rfl _ _ _ _ _ rfl (by decide) _ _ _ rfl rfl ?_; intro y ny hy); have ty : (FloatKind.f64.format.order y 0 != some .eq) = false := (by rw [order_cmp, hy.val, vZERO, HFIN.out]; rfl)) | ((refine wpList_fbin (o := ⟨some 24, _, _, _, _, _⟩) rfl _ _ _ _ _ rfl (by decide) _ _ _ rfl rfl ?_; intro f nf hf; rw [val_ofInt] at hf); have t0 : (FloatKind.f64.format.order f 0 == some .lt) = false := (by rw [order_cmp, hf.val, vZERO]; exact HB0.out); rw [← HF0.out, HF.out] at hf; have t1 : (FloatKind.f64.format.order f 4602678819172646912 == some .gt || FloatKind.f64.format.order f 4602678819172646912 == some .eq) = true := (by rw [order_cmp, hf.val, vHALF]; exact HB1.out)) | ((refine wpList_fbin (o := ⟨some 33, _, _, _, _, _⟩) rfl _ _ _ _ _ rfl (by decide) _ _ _ rfl rfl ?_; intro g ng hg; rw [hf.val, vHALF] at hg); have t2 : (FloatKind.f64.format.order g 4598175219545276416 == some .gt) = true := (by rw [order_cmp, hg.val, vQUARTER]; exact HB2.out)) | (refine wpList_fbin (o := ⟨some 37, _, _, _, _, _⟩) rfl _ _ _ _ _ rfl (by decide) _ _ _ rfl rfl ?_; intro k nk hk; rw [hg.val, vHALF] at hk) | (refine wpList_fbin (o := ⟨some 39, _, _, _, _, _⟩) rfl _ _ _ _ _ rfl (by decide) _ _ _ rfl rfl ?_; intro z nz hz; rw [hk.val, vTURN, ← HF2.out] at hz) | (refine wpList_fbin (o := ⟨some 42, _, _, _, _, _⟩) rfl _ _ _ _ _ rfl (by decide) _ _ _ rfl rfl ?_; intro u nu hu; rw [hz.val] at hu) | fail)
  go_loopw [7, 8] (fun p k wr => ∃ i : Nat, i ≤ 8 ∧ ∃ pb : Nat, p = .float .f64 pb ∧ k = .int .i64 (8 - (i : Int)) ∧ FR .f64 pb (sinP (bin .mul .f64 (sinZ F) (sinZ F)) i) ∧ ∃ n, wr = w.drewN n) (fun _ k _ => (intOf k).toNat)
  case atStart => exact ⟨0, by omega, _, rfl, rfl, ⟨by decide, vONE⟩, _, rfl⟩
  case round =>
    obtain ⟨i, hi, pb, rfl, rfl, hp, nw, rfl⟩ := hrel

    by_cases hlt : i < 8
    · have hb1 : (1 : Int) ≤ 8 - (i : Int) := by omega
      have hb8 : (8 : Int) - (i : Int) ≤ 8 := by omega
      go_wp2_with (first | (refine wpList_fbin (o := ⟨some 49, _, _, _, _, _⟩) rfl _ _ _ _ _ rfl (by decide) _ _ _ rfl rfl ?_; intro m nm hm; rw [hu.val, hp.val] at hm) | (refine wpList_fbin (o := ⟨some 57, _, _, _, _, _⟩) rfl _ _ _ _ _ rfl (by decide) _ _ _ rfl rfl ?_; intro q nq hq; rw [hm.val, val_ofInt, sin_wrap i hlt] at hq) | (refine wpList_fbin (o := ⟨some 58, _, _, _, _, _⟩) rfl _ _ _ _ _ rfl (by decide) _ _ _ rfl rfl ?_; intro r nr hr; rw [vONE, hq.val] at hr) | fail)
      go_roundw
      case rel => exact ⟨i + 1, by omega, _, rfl, by congr 1; omega, hr, _, rfl⟩
      case measure => simp [intOf]; omega
    · obtain rfl : i = 8 := by omega
      go_wp2_with (first | (refine wpList_fbin (o := ⟨some 62, _, _, _, _, _⟩) rfl _ _ _ _ _ rfl (by decide) _ _ _ rfl rfl ?_; intro q nq hq; rw [hz.val, hp.val] at hq) | fail)
      go_ret
      refine ⟨_, rfl, ?_, _, rfl⟩
      unfold sineV
      rw [if_pos HB1.out]
      exact FR_neg64 hq

theorem spec_sine_010 (x : Nat) (n : Int) (hn : floatToIntVal .f64 x .i64 = some n) (hfin : cmp .f64 (bin .sub .f64 (val .f64 x) (val .f64 x)) (some 0) = some .eq) (hhi : (FloatKind.f64.format.order x 4841369599423283200 == some .gt || FloatKind.f64.format.order x 4841369599423283200 == some .eq) = false) (hlo : (FloatKind.f64.format.order x 14064741636278059008 == some .lt || FloatKind.f64.format.order x 14064741636278059008 == some .eq) = false) (F : Option Nat) (hF : fracV (val .f64 x) n = F) (b1 : geqV F (some HALF) = true) (b2 : gtV (fold1 F) (some QUARTER) = false) (b0 : ltV (bin .sub .f64 (val .f64 x) (some (floatOfInt .f64 n))) (some 0) = false) (w : World) :
    Calls Try.prog 43 #[.float .f64 x] w fun e w' => ∃ r, e = .returned (.float .f64 r) ∧ FR .f64 r (sineV F) ∧ ∃ n, w' = w.drewN n := by
  have hc : ∀ w, (convert 25 2 (.float .f64 x)).run Try.prog w = .ok (.int .i64 n) w := fun w => run_convert_float_int w 25 2 .f64 .i64 x n (by kernel_rfl) (by kernel_rfl) hn
  have HFIN : Hid (cmp .f64 (bin .sub .f64 (val .f64 x) (val .f64 x)) (some 0) = some .eq) := hfin
  have HB0 : Hid (ltV (bin .sub .f64 (val .f64 x) (some (floatOfInt .f64 n))) (some 0) = false) := b0
  have HF0 : Hid (fracV (val .f64 x) n = bin .sub .f64 (val .f64 x) (some (floatOfInt .f64 n))) := by unfold Hid fracV; dsimp only; rw [b0]; rfl
  have hF1 : fold1 F = (bin .sub .f64 F (some HALF)) := by unfold fold1; rw [b1]; rfl
  have hF2 : fold2 (fold1 F) = (bin .sub .f64 F (some HALF)) := by unfold fold2; rw [b2, hF1]; rfl
  have b2' := b2
  rw [hF1] at b2'
  have HF : Hid (fracV (val .f64 x) n = F) := hF
  have HB1 : Hid (geqV F (some HALF) = true) := b1
  have HB2 : Hid (gtV (bin .sub .f64 F (some HALF)) (some QUARTER) = false) := b2'
  have HF2 : Hid (fold2 (fold1 F) = (bin .sub .f64 F (some HALF))) := hF2
  clear hF b1 b2 b2' hF1 hF2 b0 hfin hn
  go_enter Try.func43, Try.ntmps43
  go_wp2_with (first | ((refine wpList_fbin (o := ⟨some 11, _, _, _, _, _⟩) rfl _ _ _ _ _ rfl (by decide) _ _ _ rfl rfl ?_; intro y ny hy); have ty : (FloatKind.f64.format.order y 0 != some .eq) = false := (by rw [order_cmp, hy.val, vZERO, HFIN.out]; rfl)) | ((refine wpList_fbin (o := ⟨some 24, _, _, _, _, _⟩) rfl _ _ _ _ _ rfl (by decide) _ _ _ rfl rfl ?_; intro f nf hf; rw [val_ofInt] at hf); have t0 : (FloatKind.f64.format.order f 0 == some .lt) = false := (by rw [order_cmp, hf.val, vZERO]; exact HB0.out); rw [← HF0.out, HF.out] at hf; have t1 : (FloatKind.f64.format.order f 4602678819172646912 == some .gt || FloatKind.f64.format.order f 4602678819172646912 == some .eq) = true := (by rw [order_cmp, hf.val, vHALF]; exact HB1.out)) | ((refine wpList_fbin (o := ⟨some 33, _, _, _, _, _⟩) rfl _ _ _ _ _ rfl (by decide) _ _ _ rfl rfl ?_; intro g ng hg; rw [hf.val, vHALF] at hg); have t2 : (FloatKind.f64.format.order g 4598175219545276416 == some .gt) = false := (by rw [order_cmp, hg.val, vQUARTER]; exact HB2.out)) | (refine wpList_fbin (o := ⟨some 39, _, _, _, _, _⟩) rfl _ _ _ _ _ rfl (by decide) _ _ _ rfl rfl ?_; intro z nz hz; rw [hg.val, vTURN, ← HF2.out] at hz) | (refine wpList_fbin (o := ⟨some 42, _, _, _, _, _⟩) rfl _ _ _ _ _ rfl (by decide) _ _ _ rfl rfl ?_; intro u nu hu; rw [hz.val] at hu) | fail)
  go_loopw [7, 8] (fun p k wr => ∃ i : Nat, i ≤ 8 ∧ ∃ pb : Nat, p = .float .f64 pb ∧ k = .int .i64 (8 - (i : Int)) ∧ FR .f64 pb (sinP (bin .mul .f64 (sinZ F) (sinZ F)) i) ∧ ∃ n, wr = w.drewN n) (fun _ k _ => (intOf k).toNat)
  case atStart => exact ⟨0, by omega, _, rfl, rfl, ⟨by decide, vONE⟩, _, rfl⟩
  case round =>
    obtain ⟨i, hi, pb, rfl, rfl, hp, nw, rfl⟩ := hrel

    by_cases hlt : i < 8
    · have hb1 : (1 : Int) ≤ 8 - (i : Int) := by omega
      have hb8 : (8 : Int) - (i : Int) ≤ 8 := by omega
      go_wp2_with (first | (refine wpList_fbin (o := ⟨some 49, _, _, _, _, _⟩) rfl _ _ _ _ _ rfl (by decide) _ _ _ rfl rfl ?_; intro m nm hm; rw [hu.val, hp.val] at hm) | (refine wpList_fbin (o := ⟨some 57, _, _, _, _, _⟩) rfl _ _ _ _ _ rfl (by decide) _ _ _ rfl rfl ?_; intro q nq hq; rw [hm.val, val_ofInt, sin_wrap i hlt] at hq) | (refine wpList_fbin (o := ⟨some 58, _, _, _, _, _⟩) rfl _ _ _ _ _ rfl (by decide) _ _ _ rfl rfl ?_; intro r nr hr; rw [vONE, hq.val] at hr) | fail)
      go_roundw
      case rel => exact ⟨i + 1, by omega, _, rfl, by congr 1; omega, hr, _, rfl⟩
      case measure => simp [intOf]; omega
    · obtain rfl : i = 8 := by omega
      go_wp2_with (first | (refine wpList_fbin (o := ⟨some 62, _, _, _, _, _⟩) rfl _ _ _ _ _ rfl (by decide) _ _ _ rfl rfl ?_; intro q nq hq; rw [hz.val, hp.val] at hq) | fail)
      go_ret
      refine ⟨_, rfl, ?_, _, rfl⟩
      unfold sineV
      rw [if_pos HB1.out]
      exact FR_neg64 hq

theorem spec_sine_001 (x : Nat) (n : Int) (hn : floatToIntVal .f64 x .i64 = some n) (hfin : cmp .f64 (bin .sub .f64 (val .f64 x) (val .f64 x)) (some 0) = some .eq) (hhi : (FloatKind.f64.format.order x 4841369599423283200 == some .gt || FloatKind.f64.format.order x 4841369599423283200 == some .eq) = false) (hlo : (FloatKind.f64.format.order x 14064741636278059008 == some .lt || FloatKind.f64.format.order x 14064741636278059008 == some .eq) = false) (F : Option Nat) (hF : fracV (val .f64 x) n = F) (b1 : geqV F (some HALF) = false) (b2 : gtV (fold1 F) (some QUARTER) = true) (b0 : ltV (bin .sub .f64 (val .f64 x) (some (floatOfInt .f64 n))) (some 0) = false) (w : World) :
    Calls Try.prog 43 #[.float .f64 x] w fun e w' => ∃ r, e = .returned (.float .f64 r) ∧ FR .f64 r (sineV F) ∧ ∃ n, w' = w.drewN n := by
  have hc : ∀ w, (convert 25 2 (.float .f64 x)).run Try.prog w = .ok (.int .i64 n) w := fun w => run_convert_float_int w 25 2 .f64 .i64 x n (by kernel_rfl) (by kernel_rfl) hn
  have HFIN : Hid (cmp .f64 (bin .sub .f64 (val .f64 x) (val .f64 x)) (some 0) = some .eq) := hfin
  have HB0 : Hid (ltV (bin .sub .f64 (val .f64 x) (some (floatOfInt .f64 n))) (some 0) = false) := b0
  have HF0 : Hid (fracV (val .f64 x) n = bin .sub .f64 (val .f64 x) (some (floatOfInt .f64 n))) := by unfold Hid fracV; dsimp only; rw [b0]; rfl
  have hF1 : fold1 F = F := by unfold fold1; rw [b1]; rfl
  have hF2 : fold2 (fold1 F) = (bin .sub .f64 (some HALF) F) := by unfold fold2; rw [b2, hF1]; rfl
  have b2' := b2
  rw [hF1] at b2'
  have HF : Hid (fracV (val .f64 x) n = F) := hF
  have HB1 : Hid (geqV F (some HALF) = false) := b1
  have HB2 : Hid (gtV F (some QUARTER) = true) := b2'
  have HF2 : Hid (fold2 (fold1 F) = (bin .sub .f64 (some HALF) F)) := hF2
  clear hF b1 b2 b2' hF1 hF2 b0 hfin hn
  go_enter Try.func43, Try.ntmps43
  go_wp2_with (first | ((refine wpList_fbin (o := ⟨some 11, _, _, _, _, _⟩) rfl _ _ _ _ _ rfl (by decide) _ _ _ rfl rfl ?_; intro y ny hy); have ty : (FloatKind.f64.format.order y 0 != some .eq) = false := (by rw [order_cmp, hy.val, vZERO, HFIN.out]; rfl)) | ((refine wpList_fbin (o := ⟨some 24, _, _, _, _, _⟩) rfl _ _ _ _ _ rfl (by decide) _ _ _ rfl rfl ?_; intro f nf hf; rw [val_ofInt] at hf); have t0 : (FloatKind.f64.format.order f 0 == some .lt) = false := (by rw [order_cmp, hf.val, vZERO]; exact HB0.out); rw [← HF0.out, HF.out] at hf; have t1 : (FloatKind.f64.format.order f 4602678819172646912 == some .gt || FloatKind.f64.format.order f 4602678819172646912 == some .eq) = false := (by rw [order_cmp, hf.val, vHALF]; exact HB1.out); have t2 : (FloatKind.f64.format.order f 4598175219545276416 == some .gt) = true := (by rw [order_cmp, hf.val, vQUARTER]; exact HB2.out)) | (refine wpList_fbin (o := ⟨some 37, _, _, _, _, _⟩) rfl _ _ _ _ _ rfl (by decide) _ _ _ rfl rfl ?_; intro k nk hk; rw [hf.val, vHALF] at hk) | (refine wpList_fbin (o := ⟨some 39, _, _, _, _, _⟩) rfl _ _ _ _ _ rfl (by decide) _ _ _ rfl rfl ?_; intro z nz hz; rw [hk.val, vTURN, ← HF2.out] at hz) | (refine wpList_fbin (o := ⟨some 42, _, _, _, _, _⟩) rfl _ _ _ _ _ rfl (by decide) _ _ _ rfl rfl ?_; intro u nu hu; rw [hz.val] at hu) | fail)
  go_loopw [7, 8] (fun p k wr => ∃ i : Nat, i ≤ 8 ∧ ∃ pb : Nat, p = .float .f64 pb ∧ k = .int .i64 (8 - (i : Int)) ∧ FR .f64 pb (sinP (bin .mul .f64 (sinZ F) (sinZ F)) i) ∧ ∃ n, wr = w.drewN n) (fun _ k _ => (intOf k).toNat)
  case atStart => exact ⟨0, by omega, _, rfl, rfl, ⟨by decide, vONE⟩, _, rfl⟩
  case round =>
    obtain ⟨i, hi, pb, rfl, rfl, hp, nw, rfl⟩ := hrel

    by_cases hlt : i < 8
    · have hb1 : (1 : Int) ≤ 8 - (i : Int) := by omega
      have hb8 : (8 : Int) - (i : Int) ≤ 8 := by omega
      go_wp2_with (first | (refine wpList_fbin (o := ⟨some 49, _, _, _, _, _⟩) rfl _ _ _ _ _ rfl (by decide) _ _ _ rfl rfl ?_; intro m nm hm; rw [hu.val, hp.val] at hm) | (refine wpList_fbin (o := ⟨some 57, _, _, _, _, _⟩) rfl _ _ _ _ _ rfl (by decide) _ _ _ rfl rfl ?_; intro q nq hq; rw [hm.val, val_ofInt, sin_wrap i hlt] at hq) | (refine wpList_fbin (o := ⟨some 58, _, _, _, _, _⟩) rfl _ _ _ _ _ rfl (by decide) _ _ _ rfl rfl ?_; intro r nr hr; rw [vONE, hq.val] at hr) | fail)
      go_roundw
      case rel => exact ⟨i + 1, by omega, _, rfl, by congr 1; omega, hr, _, rfl⟩
      case measure => simp [intOf]; omega
    · obtain rfl : i = 8 := by omega
      go_wp2_with (first | (refine wpList_fbin (o := ⟨some 66, _, _, _, _, _⟩) rfl _ _ _ _ _ rfl (by decide) _ _ _ rfl rfl ?_; intro q nq hq; rw [hz.val, hp.val] at hq) | fail)
      go_ret
      refine ⟨_, rfl, ?_, _, rfl⟩
      unfold sineV
      rw [if_neg (by rw [HB1.out]; decide)]
      exact hq

theorem spec_sine_000 (x : Nat) (n : Int) (hn : floatToIntVal .f64 x .i64 = some n) (hfin : cmp .f64 (bin .sub .f64 (val .f64 x) (val .f64 x)) (some 0) = some .eq) (hhi : (FloatKind.f64.format.order x 4841369599423283200 == some .gt || FloatKind.f64.format.order x 4841369599423283200 == some .eq) = false) (hlo : (FloatKind.f64.format.order x 14064741636278059008 == some .lt || FloatKind.f64.format.order x 14064741636278059008 == some .eq) = false) (F : Option Nat) (hF : fracV (val .f64 x) n = F) (b1 : geqV F (some HALF) = false) (b2 : gtV (fold1 F) (some QUARTER) = false) (b0 : ltV (bin .sub .f64 (val .f64 x) (some (floatOfInt .f64 n))) (some 0) = false) (w : World) :
    Calls Try.prog 43 #[.float .f64 x] w fun e w' => ∃ r, e = .returned (.float .f64 r) ∧ FR .f64 r (sineV F) ∧ ∃ n, w' = w.drewN n := by
  have hc : ∀ w, (convert 25 2 (.float .f64 x)).run Try.prog w = .ok (.int .i64 n) w := fun w => run_convert_float_int w 25 2 .f64 .i64 x n (by kernel_rfl) (by kernel_rfl) hn
  have HFIN : Hid (cmp .f64 (bin .sub .f64 (val .f64 x) (val .f64 x)) (some 0) = some .eq) := hfin
  have HB0 : Hid (ltV (bin .sub .f64 (val .f64 x) (some (floatOfInt .f64 n))) (some 0) = false) := b0
  have HF0 : Hid (fracV (val .f64 x) n = bin .sub .f64 (val .f64 x) (some (floatOfInt .f64 n))) := by unfold Hid fracV; dsimp only; rw [b0]; rfl
  have hF1 : fold1 F = F := by unfold fold1; rw [b1]; rfl
  have hF2 : fold2 (fold1 F) = F := by unfold fold2; rw [b2, hF1]; rfl
  have b2' := b2
  rw [hF1] at b2'
  have HF : Hid (fracV (val .f64 x) n = F) := hF
  have HB1 : Hid (geqV F (some HALF) = false) := b1
  have HB2 : Hid (gtV F (some QUARTER) = false) := b2'
  have HF2 : Hid (fold2 (fold1 F) = F) := hF2
  clear hF b1 b2 b2' hF1 hF2 b0 hfin hn
  go_enter Try.func43, Try.ntmps43
  go_wp2_with (first | ((refine wpList_fbin (o := ⟨some 11, _, _, _, _, _⟩) rfl _ _ _ _ _ rfl (by decide) _ _ _ rfl rfl ?_; intro y ny hy); have ty : (FloatKind.f64.format.order y 0 != some .eq) = false := (by rw [order_cmp, hy.val, vZERO, HFIN.out]; rfl)) | ((refine wpList_fbin (o := ⟨some 24, _, _, _, _, _⟩) rfl _ _ _ _ _ rfl (by decide) _ _ _ rfl rfl ?_; intro f nf hf; rw [val_ofInt] at hf); have t0 : (FloatKind.f64.format.order f 0 == some .lt) = false := (by rw [order_cmp, hf.val, vZERO]; exact HB0.out); rw [← HF0.out, HF.out] at hf; have t1 : (FloatKind.f64.format.order f 4602678819172646912 == some .gt || FloatKind.f64.format.order f 4602678819172646912 == some .eq) = false := (by rw [order_cmp, hf.val, vHALF]; exact HB1.out); have t2 : (FloatKind.f64.format.order f 4598175219545276416 == some .gt) = false := (by rw [order_cmp, hf.val, vQUARTER]; exact HB2.out)) | (refine wpList_fbin (o := ⟨some 39, _, _, _, _, _⟩) rfl _ _ _ _ _ rfl (by decide) _ _ _ rfl rfl ?_; intro z nz hz; rw [hf.val, vTURN, ← HF2.out] at hz) | (refine wpList_fbin (o := ⟨some 42, _, _, _, _, _⟩) rfl _ _ _ _ _ rfl (by decide) _ _ _ rfl rfl ?_; intro u nu hu; rw [hz.val] at hu) | fail)
  go_loopw [7, 8] (fun p k wr => ∃ i : Nat, i ≤ 8 ∧ ∃ pb : Nat, p = .float .f64 pb ∧ k = .int .i64 (8 - (i : Int)) ∧ FR .f64 pb (sinP (bin .mul .f64 (sinZ F) (sinZ F)) i) ∧ ∃ n, wr = w.drewN n) (fun _ k _ => (intOf k).toNat)
  case atStart => exact ⟨0, by omega, _, rfl, rfl, ⟨by decide, vONE⟩, _, rfl⟩
  case round =>
    obtain ⟨i, hi, pb, rfl, rfl, hp, nw, rfl⟩ := hrel

    by_cases hlt : i < 8
    · have hb1 : (1 : Int) ≤ 8 - (i : Int) := by omega
      have hb8 : (8 : Int) - (i : Int) ≤ 8 := by omega
      go_wp2_with (first | (refine wpList_fbin (o := ⟨some 49, _, _, _, _, _⟩) rfl _ _ _ _ _ rfl (by decide) _ _ _ rfl rfl ?_; intro m nm hm; rw [hu.val, hp.val] at hm) | (refine wpList_fbin (o := ⟨some 57, _, _, _, _, _⟩) rfl _ _ _ _ _ rfl (by decide) _ _ _ rfl rfl ?_; intro q nq hq; rw [hm.val, val_ofInt, sin_wrap i hlt] at hq) | (refine wpList_fbin (o := ⟨some 58, _, _, _, _, _⟩) rfl _ _ _ _ _ rfl (by decide) _ _ _ rfl rfl ?_; intro r nr hr; rw [vONE, hq.val] at hr) | fail)
      go_roundw
      case rel => exact ⟨i + 1, by omega, _, rfl, by congr 1; omega, hr, _, rfl⟩
      case measure => simp [intOf]; omega
    · obtain rfl : i = 8 := by omega
      go_wp2_with (first | (refine wpList_fbin (o := ⟨some 66, _, _, _, _, _⟩) rfl _ _ _ _ _ rfl (by decide) _ _ _ rfl rfl ?_; intro q nq hq; rw [hz.val, hp.val] at hq) | fail)
      go_ret
      refine ⟨_, rfl, ?_, _, rfl⟩
      unfold sineV
      rw [if_neg (by rw [HB1.out]; decide)]
      exact hq

end Go.Proofs.Ytmbfdpplkbdpiab
