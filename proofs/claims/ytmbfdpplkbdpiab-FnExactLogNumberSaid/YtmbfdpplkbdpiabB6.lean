/-
  Contracts: the natural logarithm, both sides. (Printed by gen/gen_log.py)
-/
import Derived.Test.YtmbfdpplkbdpiabB5
import Derived.Test.YtmbfdpplkbdpiabLog
namespace Go.Proofs.Ytmbfdpplkbdpiab
open Fl Ieee Go.RowKit
set_option linter.unusedVariables false

theorem math_IsInf_pos (x : Nat) (hx : x ≤ 9218868437227405312) (w : World) : Calls Try.prog 47 #[.float .f64 x, .int .i64 1] w fun e w' => e = .returned (.bool (decide (x = 9218868437227405312))) ∧ ∃ n, w' = w.drewN n := by
  have ht : (FloatKind.f64.format.order x 9218868437227405311 == some .gt) = decide (x = 9218868437227405312) := by
    rw [order_pos hx (by decide), Bool.eq_iff_iff]
    simp only [beq_iff_eq, Option.some.injEq, Int.compare_eq_gt, decide_eq_true_eq]
    omega
  go_enter Try.func47, Try.ntmps47
  go_wp2_with fail
  go_ret
  exact ⟨rfl, 0, rfl⟩

theorem spec_l01LogWide_fin (b : Nat) (hb : 3936146074321813504 ≤ b) (hb2 : b ≤ 5183643170566569984) (w : World) :
    Calls Try.prog 46 #[.float .f64 b] w fun e w' => ∃ r, e = .returned (.float .f64 r) ∧ FR .f64 r (logV b) ∧ ∃ n, w' = w.drewN n := by
  have hvb : Hid (val .f64 b = some b) := (pos64 (by omega)).2.2
  have t1 : (FloatKind.f64.format.order b b != some .eq) = false := by rw [order_pos (by omega) (by omega)]; simp
  have t2 : (FloatKind.f64.format.order b 0 == some .lt) = false := by rw [lt_pos (by omega) (by omega)]; exact decide_eq_false (by omega)
  have t3 : (FloatKind.f64.format.order b 0 == some .eq) = false := by rw [order_pos (by omega) (by omega)]; simp; omega
  go_enter Try.func46, Try.ntmps46
  go_wp2_with (first | (go_at_call 47; refine (math_IsInf_pos b (by omega) _).mono ?_; rintro e w' ⟨rfl, n0, rfl⟩; have t4 : decide (b = 9218868437227405312) = false := decide_eq_false (by omega)) | fail)
  clear t1 t2 t3
  go_loopw [0, 3] (fun p e wr => ∃ (i a : Nat) (ef : Int), i ≤ loopA b ∧ p = .float .f64 a ∧ e = .int .i64 ef ∧ Hid (a = b - i * 4503599627370496) ∧ Hid (ef = (i : Int)) ∧ ∃ n, wr = w.drewN n) (fun p _ _ => match p with | .float _ b => b | _ => 0)
  case atStart => exact ⟨0, b, _, Nat.zero_le _, rfl, rfl, by unfold Hid; omega, by unfold Hid; rfl, _, rfl⟩
  case round =>
    obtain ⟨i, a, ef, hi, rfl, rfl, ha, hef, nw, rfl⟩ := hrel
    have hroom := loopA_room b i hb hi
    have hspec := loopA_spec b i hi
    rw [← ha.out] at hroom hspec
    have hA : i < 200 := by have := (log_range hb hb2).1; omega
    have hale : a ≤ 5183643170566569984 := by have := ha.out; omega
    have hva : Hid (val .f64 a = some a) := (pos64 (by omega)).2.2
    have ht := geq_pos (a := a) (c := 4609434218613702656) (by omega) (by decide)
    by_cases hlt : i < loopA b
    · rw [decide_eq_true (hspec.2 hlt)] at ht
      have hhalf : Hid (bin .quo .f64 (some a) (some TWO) = some (a - 4503599627370496)) := half_bits (by omega) (by omega)
      have he1 : 0 ≤ ef := by have := hef.out; omega
      have he2 : ef ≤ 200 := by have := hef.out; omega
      have hlt' : i + 1 ≤ loopA b := hlt
      clear hspec hlt
      go_wp2_with (first | (refine wpList_fbin (o := ⟨some 28, _, _, _, _, _⟩) rfl _ _ _ _ _ rfl (by decide) _ _ _ rfl rfl ?_; intro h nh hh; rw [hva.out, vTWO, hhalf.out] at hh) | fail)
      go_roundw
      case rel => exact ⟨i + 1, h, _, hlt', rfl, rfl, by have e1 := val_some hh.val; have e2 := ha.out; unfold Hid; omega, by have := hef.out; unfold Hid; push_cast; omega, _, rfl⟩
      case measure => have := val_some hh.val; simp; omega
    · rw [decide_eq_false (fun h => hlt (hspec.1 h))] at ht
      obtain rfl : i = loopA b := by omega
      clear hspec hlt hi hroom hA
      go_wp2_with fail
      clear ht
      go_loopw [0, 3] (fun p e wr => ∃ (i a : Nat) (ef : Int), i ≤ loopB (b - loopA b * 4503599627370496) ∧ p = .float .f64 a ∧ e = .int .i64 ef ∧ Hid (a = b - loopA b * 4503599627370496 + i * 4503599627370496) ∧ Hid (ef = (loopA b : Int) - (i : Int)) ∧ ∃ n, wr = w.drewN n) (fun p _ _ => match p with | .float _ b => 9223372036854775808 - b | _ => 0)
      case atStart => exact ⟨0, a, ef, Nat.zero_le _, rfl, rfl, by have := ha.out; unfold Hid; rw [Nat.zero_mul, Nat.add_zero]; exact this, by have := hef.out; unfold Hid; omega, _, rfl⟩
      case round =>
        clear ha hef hva hale
        obtain ⟨i, a, ef, hi, rfl, rfl, ha, hef, nw, rfl⟩ := hrel
        have hroom := loopA_room b (loopA b) hb (Nat.le_refl _)
        have hE := loopA_spec b (loopA b) (Nat.le_refl _)
        have hspec := loopB_spec (b - loopA b * 4503599627370496) i hi
        rw [← ha.out] at hspec
        have hR := log_range hb hb2
        have hend := loopB_end (b - loopA b * 4503599627370496) (by omega)
        have hale : a ≤ 5183643170566569984 ∧ 3936146074321813504 ≤ a := by
          have := ha.out
          have h2 : i * 4503599627370496 ≤ loopB (b - loopA b * 4503599627370496) * 4503599627370496 := Nat.mul_le_mul_right _ hi
          omega
        have hva : Hid (val .f64 a = some a) := (pos64 (by omega)).2.2
        have ht := lt_pos (a := a) (c := 4604930618986332160) (by omega) (by decide)
        by_cases hlt : i < loopB (b - loopA b * 4503599627370496)
        · have hal := hspec.2 hlt
          rw [decide_eq_true hal] at ht
          have hdbl : Hid (bin .mul .f64 (some a) (some TWO) = some (a + 4503599627370496)) := dbl_bits (by omega) (by omega)
          have he1 : -200 ≤ ef := by have := hef.out; omega
          have he2 : ef ≤ 200 := by have := hef.out; omega
          have hlt' : i + 1 ≤ loopB (b - loopA b * 4503599627370496) := hlt
          clear hspec hlt hend hR hE hroom hi
          go_wp2_with (first | (refine wpList_fbin (o := ⟨some 34, _, _, _, _, _⟩) rfl _ _ _ _ _ rfl (by decide) _ _ _ rfl rfl ?_; intro h nh hh; rw [hva.out, vTWO, hdbl.out] at hh) | fail)
          go_roundw
          case rel => exact ⟨i + 1, h, _, hlt', rfl, rfl, by have e1 := val_some hh.val; have e2 := ha.out; unfold Hid; omega, by have := hef.out; unfold Hid; push_cast; omega, _, rfl⟩
          case measure => have := val_some hh.val; show 9223372036854775808 - h < 9223372036854775808 - a; omega
        · rw [decide_eq_false (fun h => hlt (hspec.1 h))] at ht
          obtain rfl : i = loopB (b - loopA b * 4503599627370496) := by omega
          have ha' : Hid (a = logR b) := ha
          have hef' : Hid (ef = logE b) := hef
          clear hspec hlt hend hR hE hroom hi ha hef hale
          have ha := ha'
          have hef := hef'
          clear ha' hef'
          go_wp2_with (first | (refine wpList_fbin (o := ⟨some 38, _, _, _, _, _⟩) rfl _ _ _ _ _ rfl (by decide) _ _ _ rfl rfl ?_; intro d nd hd; rw [hva.out, vONE] at hd) | (refine wpList_fbin (o := ⟨some 40, _, _, _, _, _⟩) rfl _ _ _ _ _ rfl (by decide) _ _ _ rfl rfl ?_; intro g ng hg; rw [hva.out, vONE] at hg) | (refine wpList_fbin (o := ⟨some 41, _, _, _, _, _⟩) rfl _ _ _ _ _ rfl (by decide) _ _ _ rfl rfl ?_; intro s ns hs; rw [hd.val, hg.val] at hs) | (refine wpList_fbin (o := ⟨some 44, _, _, _, _, _⟩) rfl _ _ _ _ _ rfl (by decide) _ _ _ rfl rfl ?_; intro u nu hu; rw [hs.val] at hu) | fail)
          clear ht
          go_loopw [6, 7] (fun p k wr => ∃ i : Nat, i ≤ 13 ∧ ∃ pb : Nat, p = .float .f64 pb ∧ k = .int .i64 (25 - 2 * (i : Int)) ∧ FR .f64 pb (logQ (bin .mul .f64 (logS a) (logS a)) i) ∧ ∃ n, wr = w.drewN n) (fun _ k _ => (intOf k + 1).toNat)
          case atStart => exact ⟨0, by omega, _, rfl, rfl, ⟨by decide, vZERO⟩, _, rfl⟩
          case round =>
            obtain ⟨i, hi, pb, rfl, rfl, hp, nw, rfl⟩ := hrel
            by_cases hlt : i < 13
            · have hvk : Hid (floatOfInt .f64 (25 - 2 * (i : Int)) = logK i) := (log_consts i hlt).2.2.1
              have hb1 : (1 : Int) ≤ 25 - 2 * (i : Int) := by omega
              have hb8 : (25 : Int) - 2 * (i : Int) ≤ 25 := by omega
              have hlt' : i + 1 ≤ 13 := hlt
              clear hi hlt
              go_wp2_with (first | (refine wpList_fbin (o := ⟨some 51, _, _, _, _, _⟩) rfl _ _ _ _ _ rfl (by decide) _ _ _ rfl rfl ?_; intro m nm hm; rw [vONE, val_ofInt, hvk.out] at hm) | (refine wpList_fbin (o := ⟨some 54, _, _, _, _, _⟩) rfl _ _ _ _ _ rfl (by decide) _ _ _ rfl rfl ?_; intro c nc hc; rw [hu.val, hp.val] at hc) | (refine wpList_fbin (o := ⟨some 55, _, _, _, _, _⟩) rfl _ _ _ _ _ rfl (by decide) _ _ _ rfl rfl ?_; intro q nq hq; rw [hm.val, hc.val] at hq) | fail)
              go_roundw
              case rel => exact ⟨i + 1, hlt', _, rfl, by congr 1; omega, hq, _, rfl⟩
              case measure => simp [intOf]; omega
            · obtain rfl : i = 13 := by omega
              clear hi hlt
              go_wp2_with (first | (refine wpList_fbin (o := ⟨some 58, _, _, _, _, _⟩) rfl _ _ _ _ _ rfl (by decide) _ _ _ rfl rfl ?_; intro s1 ns1 hs1; rw [hs.val, hp.val] at hs1) | (refine wpList_fbin (o := ⟨some 59, _, _, _, _, _⟩) rfl _ _ _ _ _ rfl (by decide) _ _ _ rfl rfl ?_; intro s2 ns2 hs2; rw [vTWO, hs1.val] at hs2) | (refine wpList_fbin (o := ⟨some 62, _, _, _, _, _⟩) rfl _ _ _ _ _ rfl (by decide) _ _ _ rfl rfl ?_; intro s3 ns3 hs3; rw [val_ofInt, vLN2] at hs3) | (refine wpList_fbin (o := ⟨some 63, _, _, _, _, _⟩) rfl _ _ _ _ _ rfl (by decide) _ _ _ rfl rfl ?_; intro s4 ns4 hs4; rw [hs2.val, hs3.val] at hs4) | fail)
              go_ret
              refine ⟨s4, rfl, ?_, _, rfl⟩
              rw [hef.out, ha.out] at hs4
              exact hs4

end Go.Proofs.Ytmbfdpplkbdpiab
