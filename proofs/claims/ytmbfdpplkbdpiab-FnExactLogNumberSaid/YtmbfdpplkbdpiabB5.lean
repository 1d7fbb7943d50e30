/-
  Contracts: the natural logarithm, both sides. (Printed by gen/gen_log.py)
-/
import Derived.Test.YtmbfdpplkbdpiabB4
import Derived.Test.YtmbfdpplkbdpiabLog
namespace Go.Proofs.Ytmbfdpplkbdpiab
open Fl Ieee Go.RowKit
set_option linter.unusedVariables false

theorem vLogK (i : Nat) (h : i < 13) : val .f64 (logK i) = some (logK i) := (log_consts i h).1

theorem logK0 : logK 0 = 4627730092099895296 := by decide

theorem impl_naturalLog (b : Nat) (hb : 3936146074321813504 ≤ b) (hb2 : b ≤ 5183643170566569984) (w : World) :
    Calls Try.prog 37 #[.float .f64 b] w fun e w' => ∃ r, e = .returned (.float .f64 r) ∧ FR .f64 r (logV b) ∧ ∃ n, w' = w.drewN n := by
  go_enter Try.func37, Try.ntmps37
  go_wp2_with fail
  go_loopw [0, 3] (fun p e wr => ∃ (i a ef : Nat), i ≤ loopA b ∧ p = .float .f64 a ∧ e = .float .f64 ef ∧ Hid (a = b - i * 4503599627370496) ∧ Hid (ef = floatOfInt .f64 (i : Int)) ∧ ∃ n, wr = w.drewN n) (fun p _ _ => match p with | .float _ b => b | _ => 0)
  case atStart => exact ⟨0, b, _, Nat.zero_le _, rfl, rfl, by unfold Hid; omega, by unfold Hid; decide +kernel, 0, rfl⟩
  case round =>
    obtain ⟨i, a, ef, hi, rfl, rfl, ha, hef, nw, rfl⟩ := hrel
    have hroom := loopA_room b i hb hi
    have hspec := loopA_spec b i hi
    rw [← ha.out] at hroom hspec
    have hA : i < 200 := by have := (log_range hb hb2).1; omega
    have hale : a ≤ 5183643170566569984 := by have := ha.out; omega
    have hva : Hid (val .f64 a = some a) := (pos64 (by omega)).2.2
    have ht := geq_pos (a := a) (c := 4609434218613702656) (by omega) (by decide)
    by_cases hlt : i < loopA b
    · rw [decide_eq_true (hspec.2 hlt)] at ht
      have hhalf : Hid (bin .quo .f64 (some a) (some TWO) = some (a - 4503599627370496)) := half_bits (by omega) (by omega)
      have hinc : Hid (bin .add .f64 (some ef) (some ONE) = some (floatOfInt .f64 ((i : Int) + 1))) := by rw [hef.out]; exact eInc i hA
      have hve : Hid (val .f64 ef = some ef) := by rw [hef.out]; exact val_ofInt _
      have hlt' : i + 1 ≤ loopA b := hlt
      clear hspec hlt
      go_wp2_with (first | (refine wpList_fbin (o := ⟨some 11, _, _, _, _, _⟩) rfl _ _ _ _ _ rfl (by decide) _ _ _ rfl rfl ?_; intro h nh hh; rw [hva.out, vTWO, hhalf.out] at hh) | (refine wpList_fbin (o := ⟨some 13, _, _, _, _, _⟩) rfl _ _ _ _ _ rfl (by decide) _ _ _ rfl rfl ?_; intro k nk hk; rw [hve.out, vONE, hinc.out] at hk) | fail)
      go_roundw
      case rel => exact ⟨i + 1, h, k, hlt', rfl, rfl, by have e1 := val_some hh.val; have e2 := ha.out; unfold Hid; omega, by have e1 := val_some hk.val; unfold Hid; rw [← e1]; exact congrArg _ (by omega), _, rfl⟩
      case measure => have := val_some hh.val; simp; omega
    · rw [decide_eq_false (fun h => hlt (hspec.1 h))] at ht
      obtain rfl : i = loopA b := by omega
      clear hspec hlt hi hroom hA
      go_wp2_with fail
      clear ht
      go_loopw [0, 3] (fun p e wr => ∃ (i a ef : Nat), i ≤ loopB (b - loopA b * 4503599627370496) ∧ p = .float .f64 a ∧ e = .float .f64 ef ∧ Hid (a = b - loopA b * 4503599627370496 + i * 4503599627370496) ∧ Hid (ef = floatOfInt .f64 ((loopA b : Int) - (i : Int))) ∧ ∃ n, wr = w.drewN n) (fun p _ _ => match p with | .float _ b => 9223372036854775808 - b | _ => 0)
      case atStart => exact ⟨0, a, ef, Nat.zero_le _, rfl, rfl, by have := ha.out; unfold Hid; rw [Nat.zero_mul, Nat.add_zero]; exact this, by unfold Hid; rw [hef.out]; exact congrArg _ (by omega), _, rfl⟩
      case round =>
        clear ha hef hva hale
        obtain ⟨i, a, ef, hi, rfl, rfl, ha, hef, nw, rfl⟩ := hrel
        have hroom := loopA_room b (loopA b) hb (Nat.le_refl _)
        have hE := loopA_spec b (loopA b) (Nat.le_refl _)
        have hspec := loopB_spec (b - loopA b * 4503599627370496) i hi
        rw [← ha.out] at hspec
        have hR := log_range hb hb2
        have hend := loopB_end (b - loopA b * 4503599627370496) (by omega)
        have hale : a ≤ 5183643170566569984 ∧ 3936146074321813504 ≤ a := by
          have := ha.out
          have h2 : i * 4503599627370496 ≤ loopB (b - loopA b * 4503599627370496) * 4503599627370496 := Nat.mul_le_mul_right _ hi
          omega
        have hva : Hid (val .f64 a = some a) := (pos64 (by omega)).2.2
        have hve : Hid (val .f64 ef = some ef) := by rw [hef.out]; exact val_ofInt _
        have ht := lt_pos (a := a) (c := 4604930618986332160) (by omega) (by decide)
        by_cases hlt : i < loopB (b - loopA b * 4503599627370496)
        · have hal := hspec.2 hlt
          rw [decide_eq_true hal] at ht
          have hdbl : Hid (bin .mul .f64 (some a) (some TWO) = some (a + 4503599627370496)) := dbl_bits (by omega) (by omega)
          have hdec : Hid (bin .sub .f64 (some ef) (some ONE) = some (floatOfInt .f64 ((loopA b : Int) - (i : Int) - 1))) := by rw [hef.out]; exact eDec' _ (by omega) (by omega)
          have hlt' : i + 1 ≤ loopB (b - loopA b * 4503599627370496) := hlt
          clear hspec hlt hend hR hE hroom hi
          go_wp2_with (first | (refine wpList_fbin (o := ⟨some 17, _, _, _, _, _⟩) rfl _ _ _ _ _ rfl (by decide) _ _ _ rfl rfl ?_; intro h nh hh; rw [hva.out, vTWO, hdbl.out] at hh) | (refine wpList_fbin (o := ⟨some 19, _, _, _, _, _⟩) rfl _ _ _ _ _ rfl (by decide) _ _ _ rfl rfl ?_; intro k nk hk; rw [hve.out, vONE, hdec.out] at hk) | fail)
          go_roundw
          case rel => exact ⟨i + 1, h, k, hlt', rfl, rfl, by have e1 := val_some hh.val; have e2 := ha.out; unfold Hid; omega, by have e1 := val_some hk.val; unfold Hid; rw [← e1]; exact congrArg _ (by omega), _, rfl⟩
          case measure => have := val_some hh.val; show 9223372036854775808 - h < 9223372036854775808 - a; omega
        · rw [decide_eq_false (fun h => hlt (hspec.1 h))] at ht
          obtain rfl : i = loopB (b - loopA b * 4503599627370496) := by omega
          have ha' : Hid (a = logR b) := ha
          have hef' : Hid (ef = floatOfInt .f64 (logE b)) := hef
          have hvef := hve
          clear hspec hlt hend hR hE hroom hi ha hef hve hale
          have ha := ha'
          have hef := hef'
          clear ha' hef'
          go_wp2_with (first | (refine wpList_fbin (o := ⟨some 21, _, _, _, _, _⟩) rfl _ _ _ _ _ rfl (by decide) _ _ _ rfl rfl ?_; intro d nd hd; rw [hva.out, vONE] at hd) | (refine wpList_fbin (o := ⟨some 23, _, _, _, _, _⟩) rfl _ _ _ _ _ rfl (by decide) _ _ _ rfl rfl ?_; intro g ng hg; rw [hva.out, vONE] at hg) | (refine wpList_fbin (o := ⟨some 24, _, _, _, _, _⟩) rfl _ _ _ _ _ rfl (by decide) _ _ _ rfl rfl ?_; intro s ns hs; rw [hd.val, hg.val] at hs) | (refine wpList_fbin (o := ⟨some 27, _, _, _, _, _⟩) rfl _ _ _ _ _ rfl (by decide) _ _ _ rfl rfl ?_; intro u nu hu; rw [hs.val] at hu) | fail)
          clear ht
          go_loopw [6, 7] (fun p k wr => ∃ i : Nat, i ≤ 13 ∧ ∃ pb : Nat, p = .float .f64 pb ∧ k = .float .f64 (logK i) ∧ FR .f64 pb (logQ (bin .mul .f64 (logS a) (logS a)) i) ∧ ∃ n, wr = w.drewN n) (fun _ k _ => match k with | .float _ b => if b < 9223372036854775808 then b else 0 | _ => 0)
          case atStart => exact ⟨0, by omega, _, rfl, by rw [logK0], ⟨by decide, vZERO⟩, _, rfl⟩
          case round =>
            obtain ⟨i, hi, pb, rfl, rfl, hp, nw, rfl⟩ := hrel
            by_cases hlt : i < 13
            · have ht := (log_consts i hlt).2.2.2
              have hvk : Hid (val .f64 (logK i) = some (logK i)) := vLogK i hlt
              have hks : Hid (bin .sub .f64 (some (logK i)) (some TWO) = some (logK (i + 1))) := (log_consts i hlt).2.1
              have ht' : (FloatKind.f64.format.order (logK i) 4607182418800017408 == some .gt || FloatKind.f64.format.order (logK i) 4607182418800017408 == some .eq) = true := ht
              have hlt' : i + 1 ≤ 13 := hlt
              have hml := logK_lt i hlt
              clear ht hi hlt
              go_wp2_with (first | (refine wpList_fbin (o := ⟨some 33, _, _, _, _, _⟩) rfl _ _ _ _ _ rfl (by decide) _ _ _ rfl rfl ?_; intro m nm hm; rw [vONE, hvk.out] at hm) | (refine wpList_fbin (o := ⟨some 36, _, _, _, _, _⟩) rfl _ _ _ _ _ rfl (by decide) _ _ _ rfl rfl ?_; intro c nc hc; rw [hu.val, hp.val] at hc) | (refine wpList_fbin (o := ⟨some 37, _, _, _, _, _⟩) rfl _ _ _ _ _ rfl (by decide) _ _ _ rfl rfl ?_; intro q nq hq; rw [hm.val, hc.val] at hq) | (refine wpList_fbin (o := ⟨some 31, _, _, _, _, _⟩) rfl _ _ _ _ _ rfl (by decide) _ _ _ rfl rfl ?_; intro kk nkk hkk; rw [hvk.out, vTWO, hks.out] at hkk) | fail)
              go_roundw
              case rel => exact ⟨i + 1, hlt', _, rfl, by rw [← val_some hkk.val], hq, _, rfl⟩
              case measure => rw [val_some hkk.val] at hml; exact hml
            · obtain rfl : i = 13 := by omega
              have ht' : (FloatKind.f64.format.order (logK 13) 4607182418800017408 == some .gt || FloatKind.f64.format.order (logK 13) 4607182418800017408 == some .eq) = false := log_end
              clear hi hlt
              go_wp2_with (first | (refine wpList_fbin (o := ⟨some 40, _, _, _, _, _⟩) rfl _ _ _ _ _ rfl (by decide) _ _ _ rfl rfl ?_; intro s1 ns1 hs1; rw [hs.val, hp.val] at hs1) | (refine wpList_fbin (o := ⟨some 41, _, _, _, _, _⟩) rfl _ _ _ _ _ rfl (by decide) _ _ _ rfl rfl ?_; intro s2 ns2 hs2; rw [vTWO, hs1.val] at hs2) | (refine wpList_fbin (o := ⟨some 43, _, _, _, _, _⟩) rfl _ _ _ _ _ rfl (by decide) _ _ _ rfl rfl ?_; intro s3 ns3 hs3; rw [hvef.out, vLN2] at hs3) | (refine wpList_fbin (o := ⟨some 44, _, _, _, _, _⟩) rfl _ _ _ _ _ rfl (by decide) _ _ _ rfl rfl ?_; intro s4 ns4 hs4; rw [hs2.val, hs3.val] at hs4) | fail)
              go_ret
              refine ⟨s4, rfl, ?_, _, rfl⟩
              rw [hef.out, ha.out] at hs4
              exact hs4

end Go.Proofs.Ytmbfdpplkbdpiab
