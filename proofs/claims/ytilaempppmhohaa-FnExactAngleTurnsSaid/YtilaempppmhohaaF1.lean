/-
  Contracts: AngleTurns, the program's side. (Printed by gen/gen_angle.py)
-/
import Derived.Test.YtilaempppmhohaaB7
import Derived.Test.YtilaempppmhohaaAngle
namespace Go.Proofs.Ytilaempppmhohaa
open Fl Ieee Go.RowKit
set_option linter.unusedVariables false

theorem logK5 : logK (0 + 5) = 4624633867356078080 := by decide

theorem impl_Angle_1110 (y x : Nat) (hfx : isFin (val .f32 x) = true) (hfy : isFin (val .f32 y) = true) (hvx : val .f32 x = some x) (hvy : val .f32 y = some y)
    (t0 : (FloatKind.f32.format.order x 0 == some .eq) = false) (t1 : (FloatKind.f64.format.order (W y % 9223372036854775808) (W x % 9223372036854775808) == some .gt) = true) (t2 : (FloatKind.f32.format.order x 0 == some .lt) = true) (t3 : (FloatKind.f32.format.order y 0 == some .lt) = true)
    (va : val .f64 (W y % 9223372036854775808) = some (W y % 9223372036854775808)) (vb : val .f64 (W x % 9223372036854775808) = some (W x % 9223372036854775808)) (hok : NarOk (angV true true true (W y % 9223372036854775808) (W x % 9223372036854775808))) (w : World) :
    Calls Try.prog 14 #[.float .f32 y, .float .f32 x] w fun e w' => ∃ r, e = .returned (.float .f32 r) ∧ FR .f32 r (nar (angV true true true (W y % 9223372036854775808) (W x % 9223372036854775808))) ∧ ∃ n, w' = w.drewN n := by
  have Hvx : Hid (val .f32 x = some x) := hvx
  have Hvy : Hid (val .f32 y = some y) := hvy
  have Va : Hid (val .f64 (W y % 9223372036854775808) = some (W y % 9223372036854775808)) := va
  have Vb : Hid (val .f64 (W x % 9223372036854775808) = some (W x % 9223372036854775808)) := vb
  have HOK : Hid (NarOk (angV true true true (W y % 9223372036854775808) (W x % 9223372036854775808))) := hok
  clear hvx hvy va vb hok
  go_enter Try.func14, Try.ntmps14
  go_wp2_with (first | (go_at_call 20; refine (impl_IsFinite _ _).mono ?_; rintro e w' ⟨rfl, nf, rfl⟩) | ((refine wpList_widen (o := ⟨some 29, _, _, _, _, _⟩) rfl _ _ _ rfl _ rfl (by kernel_rfl) (by kernel_rfl) ?_; intro p np hp); obtain rfl := (FR_wid Hvy.out hp).2; have lp : W y < 18446744073709551616 := hp.lt) | ((refine wpList_widen (o := ⟨some 32, _, _, _, _, _⟩) rfl _ _ _ rfl _ rfl (by kernel_rfl) (by kernel_rfl) ?_; intro q nq hq); obtain rfl := (FR_wid Hvx.out hq).2; have lq : W x < 18446744073709551616 := hq.lt) | (go_at_call 22; first | (refine (math_Abs _ lq _).mono ?_; rintro e w' ⟨rfl, rfl⟩) | (refine (math_Abs _ lp _).mono ?_; rintro e w' ⟨rfl, rfl⟩)) | (refine wpList_fbin (o := ⟨some 36, _, _, _, _, _⟩) rfl _ _ _ _ _ rfl (by decide) _ _ _ rfl rfl ?_; intro s0 ns0 hs0) | (refine wpList_fbin (o := ⟨some 42, _, _, _, _, _⟩) rfl _ _ _ _ _ rfl (by decide) _ _ _ rfl rfl ?_; intro t nt ht; rw [Vb.out, Va.out] at ht) | fail)
  have ht0 : FR .f64 t (angT (angS true (W y % 9223372036854775808) (W x % 9223372036854775808)) 0) := ht
  clear ht
  go_loopw [7, 43] (fun t k wr => ∃ (i tb : Nat), i ≤ 3 ∧ t = .float .f64 tb ∧ k = .int .i64 (i : Int) ∧ FR .f64 tb (angT (angS true (W y % 9223372036854775808) (W x % 9223372036854775808)) i) ∧ ∃ n, wr = w.drewN n) (fun _ k _ => 3 - (intOf k).toNat)
  case atStart => exact ⟨0, _, Nat.zero_le _, rfl, rfl, ht0, _, rfl⟩
  case round =>
    obtain ⟨i, t, hi, rfl, rfl, ht, nw, rfl⟩ := hrel
    by_cases hlt : i < 3
    · have b1 : (i : Int) < 3 := by omega
      go_wp2_with (first | (refine wpList_fbin (o := ⟨some 48, _, _, _, _, _⟩) rfl _ _ _ _ _ rfl (by decide) _ _ _ rfl rfl ?_; intro m1 nm1 hm1; rw [ht.val] at hm1) | (refine wpList_fbin (o := ⟨some 49, _, _, _, _, _⟩) rfl _ _ _ _ _ rfl (by decide) _ _ _ rfl rfl ?_; intro p1 np1 hp1; rw [vONE, hm1.val] at hp1) | (go_at_call 23; refine (math_Sqrt _ _).mono ?_; rintro e w' ⟨q1, rfl, hq1, nq1, rfl⟩; rw [hp1.val] at hq1) | (refine wpList_fbin (o := ⟨some 51, _, _, _, _, _⟩) rfl _ _ _ _ _ rfl (by decide) _ _ _ rfl rfl ?_; intro d1 nd1 hd1; rw [vONE, hq1.val] at hd1) | (refine wpList_fbin (o := ⟨some 52, _, _, _, _, _⟩) rfl _ _ _ _ _ rfl (by decide) _ _ _ rfl rfl ?_; intro r1 nr1 hr1; rw [ht.val, hd1.val] at hr1) | fail)
      go_roundw
      case rel => exact ⟨i + 1, _, hlt, rfl, by simp, hr1, _, rfl⟩
      case measure => simp [intOf]; omega
    · obtain rfl : i = 3 := by omega
      clear hi hlt
      go_wp2_with (first | (refine wpList_fbin (o := ⟨some 56, _, _, _, _, _⟩) rfl _ _ _ _ _ rfl (by decide) _ _ _ rfl rfl ?_; intro u nu hu; rw [ht.val] at hu) | fail)
      go_loopw [9, 10] (fun p k wr => ∃ i : Nat, i ≤ 8 ∧ ∃ pb : Nat, p = .float .f64 pb ∧ k = .float .f64 (logK (i + 5)) ∧ FR .f64 pb (angQ (bin .mul .f64 (angT (angS true (W y % 9223372036854775808) (W x % 9223372036854775808)) 3) (angT (angS true (W y % 9223372036854775808) (W x % 9223372036854775808)) 3)) i) ∧ ∃ n, wr = w.drewN n) (fun _ k _ => match k with | .float _ b => if b < 9223372036854775808 then b else 0 | _ => 0)
      case atStart => exact ⟨0, by omega, _, rfl, by rw [logK5], ⟨by decide, vZERO⟩, _, rfl⟩
      case round =>
        obtain ⟨i, hi, pb, rfl, rfl, hpp, nw, rfl⟩ := hrel
        by_cases hlt : i < 8
        · have hvk : Hid (val .f64 (logK (i + 5)) = some (logK (i + 5))) := (ang_consts i hlt).1
          have hks : Hid (bin .sub .f64 (some (logK (i + 5))) (some TWO) = some (logK (i + 1 + 5))) := (ang_consts i hlt).2.1
          have ht' : (FloatKind.f64.format.order (logK (i + 5)) 4607182418800017408 == some .gt || FloatKind.f64.format.order (logK (i + 5)) 4607182418800017408 == some .eq) = true := (ang_consts i hlt).2.2.2
          have hlt' : i + 1 ≤ 8 := hlt
          have hml := logK_lt (i + 5) (by omega)
          clear hi hlt
          go_wp2_with (first | (refine wpList_fbin (o := ⟨some 62, _, _, _, _, _⟩) rfl _ _ _ _ _ rfl (by decide) _ _ _ rfl rfl ?_; intro c1 nc1 hc1; rw [vONE, hvk.out] at hc1) | (refine wpList_fbin (o := ⟨some 65, _, _, _, _, _⟩) rfl _ _ _ _ _ rfl (by decide) _ _ _ rfl rfl ?_; intro c2 nc2 hc2; rw [hu.val, hpp.val] at hc2) | (refine wpList_fbin (o := ⟨some 66, _, _, _, _, _⟩) rfl _ _ _ _ _ rfl (by decide) _ _ _ rfl rfl ?_; intro c3 nc3 hc3; rw [hc1.val, hc2.val] at hc3) | (refine wpList_fbin (o := ⟨some 60, _, _, _, _, _⟩) rfl _ _ _ _ _ rfl (by decide) _ _ _ rfl rfl ?_; intro kk nkk hkk; rw [hvk.out, vTWO, hks.out] at hkk) | fail)
          go_roundw
          case rel => exact ⟨i + 1, hlt', _, rfl, by rw [← val_some hkk.val], hc3, _, rfl⟩
          case measure => rw [show i + 5 + 1 = i + 1 + 5 by omega, val_some hkk.val] at hml; exact hml
        · obtain rfl : i = 8 := by omega
          have ht' : (FloatKind.f64.format.order (logK (8 + 5)) 4607182418800017408 == some .gt || FloatKind.f64.format.order (logK (8 + 5)) 4607182418800017408 == some .eq) = false := log_end
          clear hi hlt
          go_wp2_with (first | (refine wpList_fbin (o := ⟨some 69, _, _, _, _, _⟩) rfl _ _ _ _ _ rfl (by decide) _ _ _ rfl rfl ?_; intro e1 ne1 he1; rw [ht.val, hpp.val] at he1) | (refine wpList_fbin (o := ⟨some 70, _, _, _, _, _⟩) rfl _ _ _ _ _ rfl (by decide) _ _ _ rfl rfl ?_; intro e2 ne2 he2; rw [vEIGHT, he1.val] at he2) | (refine wpList_fbin (o := ⟨some 71, _, _, _, _, _⟩) rfl _ _ _ _ _ rfl (by decide) _ _ _ rfl rfl ?_; intro e3 ne3 he3; rw [he2.val, vTURN] at he3) | (refine wpList_fbin (o := ⟨some 76, _, _, _, _, _⟩) rfl _ _ _ _ _ rfl (by decide) _ _ _ rfl rfl ?_; intro e4 ne4 he4; rw [vQUARTER, he3.val] at he4) | (refine wpList_fbin (o := ⟨some 80, _, _, _, _, _⟩) rfl _ _ _ _ _ rfl (by decide) _ _ _ rfl rfl ?_; intro e5 ne5 he5; rw [vHALF, he4.val] at he5) | (refine wpList_narrow (o := ⟨some 86, _, _, _, _, _⟩) rfl _ _ _ rfl _ rfl (by kernel_rfl) (by kernel_rfl) (by rw [(FR_neg64 he5).val]; exact HOK.out) ?_; intro r nr hr) | fail)
          go_ret
          refine ⟨r, rfl, ?_, _, rfl⟩
          rw [(FR_neg64 he5).val] at hr
          exact hr

theorem impl_Angle_1100 (y x : Nat) (hfx : isFin (val .f32 x) = true) (hfy : isFin (val .f32 y) = true) (hvx : val .f32 x = some x) (hvy : val .f32 y = some y)
    (t0 : (FloatKind.f32.format.order x 0 == some .eq) = false) (t1 : (FloatKind.f64.format.order (W y % 9223372036854775808) (W x % 9223372036854775808) == some .gt) = true) (t2 : (FloatKind.f32.format.order x 0 == some .lt) = true) (t3 : (FloatKind.f32.format.order y 0 == some .lt) = false)
    (va : val .f64 (W y % 9223372036854775808) = some (W y % 9223372036854775808)) (vb : val .f64 (W x % 9223372036854775808) = some (W x % 9223372036854775808)) (hok : NarOk (angV true true false (W y % 9223372036854775808) (W x % 9223372036854775808))) (w : World) :
    Calls Try.prog 14 #[.float .f32 y, .float .f32 x] w fun e w' => ∃ r, e = .returned (.float .f32 r) ∧ FR .f32 r (nar (angV true true false (W y % 9223372036854775808) (W x % 9223372036854775808))) ∧ ∃ n, w' = w.drewN n := by
  have Hvx : Hid (val .f32 x = some x) := hvx
  have Hvy : Hid (val .f32 y = some y) := hvy
  have Va : Hid (val .f64 (W y % 9223372036854775808) = some (W y % 9223372036854775808)) := va
  have Vb : Hid (val .f64 (W x % 9223372036854775808) = some (W x % 9223372036854775808)) := vb
  have HOK : Hid (NarOk (angV true true false (W y % 9223372036854775808) (W x % 9223372036854775808))) := hok
  clear hvx hvy va vb hok
  go_enter Try.func14, Try.ntmps14
  go_wp2_with (first | (go_at_call 20; refine (impl_IsFinite _ _).mono ?_; rintro e w' ⟨rfl, nf, rfl⟩) | ((refine wpList_widen (o := ⟨some 29, _, _, _, _, _⟩) rfl _ _ _ rfl _ rfl (by kernel_rfl) (by kernel_rfl) ?_; intro p np hp); obtain rfl := (FR_wid Hvy.out hp).2; have lp : W y < 18446744073709551616 := hp.lt) | ((refine wpList_widen (o := ⟨some 32, _, _, _, _, _⟩) rfl _ _ _ rfl _ rfl (by kernel_rfl) (by kernel_rfl) ?_; intro q nq hq); obtain rfl := (FR_wid Hvx.out hq).2; have lq : W x < 18446744073709551616 := hq.lt) | (go_at_call 22; first | (refine (math_Abs _ lq _).mono ?_; rintro e w' ⟨rfl, rfl⟩) | (refine (math_Abs _ lp _).mono ?_; rintro e w' ⟨rfl, rfl⟩)) | (refine wpList_fbin (o := ⟨some 36, _, _, _, _, _⟩) rfl _ _ _ _ _ rfl (by decide) _ _ _ rfl rfl ?_; intro s0 ns0 hs0) | (refine wpList_fbin (o := ⟨some 42, _, _, _, _, _⟩) rfl _ _ _ _ _ rfl (by decide) _ _ _ rfl rfl ?_; intro t nt ht; rw [Vb.out, Va.out] at ht) | fail)
  have ht0 : FR .f64 t (angT (angS true (W y % 9223372036854775808) (W x % 9223372036854775808)) 0) := ht
  clear ht
  go_loopw [7, 43] (fun t k wr => ∃ (i tb : Nat), i ≤ 3 ∧ t = .float .f64 tb ∧ k = .int .i64 (i : Int) ∧ FR .f64 tb (angT (angS true (W y % 9223372036854775808) (W x % 9223372036854775808)) i) ∧ ∃ n, wr = w.drewN n) (fun _ k _ => 3 - (intOf k).toNat)
  case atStart => exact ⟨0, _, Nat.zero_le _, rfl, rfl, ht0, _, rfl⟩
  case round =>
    obtain ⟨i, t, hi, rfl, rfl, ht, nw, rfl⟩ := hrel
    by_cases hlt : i < 3
    · have b1 : (i : Int) < 3 := by omega
      go_wp2_with (first | (refine wpList_fbin (o := ⟨some 48, _, _, _, _, _⟩) rfl _ _ _ _ _ rfl (by decide) _ _ _ rfl rfl ?_; intro m1 nm1 hm1; rw [ht.val] at hm1) | (refine wpList_fbin (o := ⟨some 49, _, _, _, _, _⟩) rfl _ _ _ _ _ rfl (by decide) _ _ _ rfl rfl ?_; intro p1 np1 hp1; rw [vONE, hm1.val] at hp1) | (go_at_call 23; refine (math_Sqrt _ _).mono ?_; rintro e w' ⟨q1, rfl, hq1, nq1, rfl⟩; rw [hp1.val] at hq1) | (refine wpList_fbin (o := ⟨some 51, _, _, _, _, _⟩) rfl _ _ _ _ _ rfl (by decide) _ _ _ rfl rfl ?_; intro d1 nd1 hd1; rw [vONE, hq1.val] at hd1) | (refine wpList_fbin (o := ⟨some 52, _, _, _, _, _⟩) rfl _ _ _ _ _ rfl (by decide) _ _ _ rfl rfl ?_; intro r1 nr1 hr1; rw [ht.val, hd1.val] at hr1) | fail)
      go_roundw
      case rel => exact ⟨i + 1, _, hlt, rfl, by simp, hr1, _, rfl⟩
      case measure => simp [intOf]; omega
    · obtain rfl : i = 3 := by omega
      clear hi hlt
      go_wp2_with (first | (refine wpList_fbin (o := ⟨some 56, _, _, _, _, _⟩) rfl _ _ _ _ _ rfl (by decide) _ _ _ rfl rfl ?_; intro u nu hu; rw [ht.val] at hu) | fail)
      go_loopw [9, 10] (fun p k wr => ∃ i : Nat, i ≤ 8 ∧ ∃ pb : Nat, p = .float .f64 pb ∧ k = .float .f64 (logK (i + 5)) ∧ FR .f64 pb (angQ (bin .mul .f64 (angT (angS true (W y % 9223372036854775808) (W x % 9223372036854775808)) 3) (angT (angS true (W y % 9223372036854775808) (W x % 9223372036854775808)) 3)) i) ∧ ∃ n, wr = w.drewN n) (fun _ k _ => match k with | .float _ b => if b < 9223372036854775808 then b else 0 | _ => 0)
      case atStart => exact ⟨0, by omega, _, rfl, by rw [logK5], ⟨by decide, vZERO⟩, _, rfl⟩
      case round =>
        obtain ⟨i, hi, pb, rfl, rfl, hpp, nw, rfl⟩ := hrel
        by_cases hlt : i < 8
        · have hvk : Hid (val .f64 (logK (i + 5)) = some (logK (i + 5))) := (ang_consts i hlt).1
          have hks : Hid (bin .sub .f64 (some (logK (i + 5))) (some TWO) = some (logK (i + 1 + 5))) := (ang_consts i hlt).2.1
          have ht' : (FloatKind.f64.format.order (logK (i + 5)) 4607182418800017408 == some .gt || FloatKind.f64.format.order (logK (i + 5)) 4607182418800017408 == some .eq) = true := (ang_consts i hlt).2.2.2
          have hlt' : i + 1 ≤ 8 := hlt
          have hml := logK_lt (i + 5) (by omega)
          clear hi hlt
          go_wp2_with (first | (refine wpList_fbin (o := ⟨some 62, _, _, _, _, _⟩) rfl _ _ _ _ _ rfl (by decide) _ _ _ rfl rfl ?_; intro c1 nc1 hc1; rw [vONE, hvk.out] at hc1) | (refine wpList_fbin (o := ⟨some 65, _, _, _, _, _⟩) rfl _ _ _ _ _ rfl (by decide) _ _ _ rfl rfl ?_; intro c2 nc2 hc2; rw [hu.val, hpp.val] at hc2) | (refine wpList_fbin (o := ⟨some 66, _, _, _, _, _⟩) rfl _ _ _ _ _ rfl (by decide) _ _ _ rfl rfl ?_; intro c3 nc3 hc3; rw [hc1.val, hc2.val] at hc3) | (refine wpList_fbin (o := ⟨some 60, _, _, _, _, _⟩) rfl _ _ _ _ _ rfl (by decide) _ _ _ rfl rfl ?_; intro kk nkk hkk; rw [hvk.out, vTWO, hks.out] at hkk) | fail)
          go_roundw
          case rel => exact ⟨i + 1, hlt', _, rfl, by rw [← val_some hkk.val], hc3, _, rfl⟩
          case measure => rw [show i + 5 + 1 = i + 1 + 5 by omega, val_some hkk.val] at hml; exact hml
        · obtain rfl : i = 8 := by omega
          have ht' : (FloatKind.f64.format.order (logK (8 + 5)) 4607182418800017408 == some .gt || FloatKind.f64.format.order (logK (8 + 5)) 4607182418800017408 == some .eq) = false := log_end
          clear hi hlt
          go_wp2_with (first | (refine wpList_fbin (o := ⟨some 69, _, _, _, _, _⟩) rfl _ _ _ _ _ rfl (by decide) _ _ _ rfl rfl ?_; intro e1 ne1 he1; rw [ht.val, hpp.val] at he1) | (refine wpList_fbin (o := ⟨some 70, _, _, _, _, _⟩) rfl _ _ _ _ _ rfl (by decide) _ _ _ rfl rfl ?_; intro e2 ne2 he2; rw [vEIGHT, he1.val] at he2) | (refine wpList_fbin (o := ⟨some 71, _, _, _, _, _⟩) rfl _ _ _ _ _ rfl (by decide) _ _ _ rfl rfl ?_; intro e3 ne3 he3; rw [he2.val, vTURN] at he3) | (refine wpList_fbin (o := ⟨some 76, _, _, _, _, _⟩) rfl _ _ _ _ _ rfl (by decide) _ _ _ rfl rfl ?_; intro e4 ne4 he4; rw [vQUARTER, he3.val] at he4) | (refine wpList_fbin (o := ⟨some 80, _, _, _, _, _⟩) rfl _ _ _ _ _ rfl (by decide) _ _ _ rfl rfl ?_; intro e5 ne5 he5; rw [vHALF, he4.val] at he5) | (refine wpList_narrow (o := ⟨some 86, _, _, _, _, _⟩) rfl _ _ _ rfl _ rfl (by kernel_rfl) (by kernel_rfl) (by rw [he5.val]; exact HOK.out) ?_; intro r nr hr) | fail)
          go_ret
          refine ⟨r, rfl, ?_, _, rfl⟩
          rw [he5.val] at hr
          exact hr

theorem impl_Angle_1010 (y x : Nat) (hfx : isFin (val .f32 x) = true) (hfy : isFin (val .f32 y) = true) (hvx : val .f32 x = some x) (hvy : val .f32 y = some y)
    (t0 : (FloatKind.f32.format.order x 0 == some .eq) = false) (t1 : (FloatKind.f64.format.order (W y % 9223372036854775808) (W x % 9223372036854775808) == some .gt) = true) (t2 : (FloatKind.f32.format.order x 0 == some .lt) = false) (t3 : (FloatKind.f32.format.order y 0 == some .lt) = true)
    (va : val .f64 (W y % 9223372036854775808) = some (W y % 9223372036854775808)) (vb : val .f64 (W x % 9223372036854775808) = some (W x % 9223372036854775808)) (hok : NarOk (angV true false true (W y % 9223372036854775808) (W x % 9223372036854775808))) (w : World) :
    Calls Try.prog 14 #[.float .f32 y, .float .f32 x] w fun e w' => ∃ r, e = .returned (.float .f32 r) ∧ FR .f32 r (nar (angV true false true (W y % 9223372036854775808) (W x % 9223372036854775808))) ∧ ∃ n, w' = w.drewN n := by
  have Hvx : Hid (val .f32 x = some x) := hvx
  have Hvy : Hid (val .f32 y = some y) := hvy
  have Va : Hid (val .f64 (W y % 9223372036854775808) = some (W y % 9223372036854775808)) := va
  have Vb : Hid (val .f64 (W x % 9223372036854775808) = some (W x % 9223372036854775808)) := vb
  have HOK : Hid (NarOk (angV true false true (W y % 9223372036854775808) (W x % 9223372036854775808))) := hok
  clear hvx hvy va vb hok
  go_enter Try.func14, Try.ntmps14
  go_wp2_with (first | (go_at_call 20; refine (impl_IsFinite _ _).mono ?_; rintro e w' ⟨rfl, nf, rfl⟩) | ((refine wpList_widen (o := ⟨some 29, _, _, _, _, _⟩) rfl _ _ _ rfl _ rfl (by kernel_rfl) (by kernel_rfl) ?_; intro p np hp); obtain rfl := (FR_wid Hvy.out hp).2; have lp : W y < 18446744073709551616 := hp.lt) | ((refine wpList_widen (o := ⟨some 32, _, _, _, _, _⟩) rfl _ _ _ rfl _ rfl (by kernel_rfl) (by kernel_rfl) ?_; intro q nq hq); obtain rfl := (FR_wid Hvx.out hq).2; have lq : W x < 18446744073709551616 := hq.lt) | (go_at_call 22; first | (refine (math_Abs _ lq _).mono ?_; rintro e w' ⟨rfl, rfl⟩) | (refine (math_Abs _ lp _).mono ?_; rintro e w' ⟨rfl, rfl⟩)) | (refine wpList_fbin (o := ⟨some 36, _, _, _, _, _⟩) rfl _ _ _ _ _ rfl (by decide) _ _ _ rfl rfl ?_; intro s0 ns0 hs0) | (refine wpList_fbin (o := ⟨some 42, _, _, _, _, _⟩) rfl _ _ _ _ _ rfl (by decide) _ _ _ rfl rfl ?_; intro t nt ht; rw [Vb.out, Va.out] at ht) | fail)
  have ht0 : FR .f64 t (angT (angS true (W y % 9223372036854775808) (W x % 9223372036854775808)) 0) := ht
  clear ht
  go_loopw [7, 43] (fun t k wr => ∃ (i tb : Nat), i ≤ 3 ∧ t = .float .f64 tb ∧ k = .int .i64 (i : Int) ∧ FR .f64 tb (angT (angS true (W y % 9223372036854775808) (W x % 9223372036854775808)) i) ∧ ∃ n, wr = w.drewN n) (fun _ k _ => 3 - (intOf k).toNat)
  case atStart => exact ⟨0, _, Nat.zero_le _, rfl, rfl, ht0, _, rfl⟩
  case round =>
    obtain ⟨i, t, hi, rfl, rfl, ht, nw, rfl⟩ := hrel
    by_cases hlt : i < 3
    · have b1 : (i : Int) < 3 := by omega
      go_wp2_with (first | (refine wpList_fbin (o := ⟨some 48, _, _, _, _, _⟩) rfl _ _ _ _ _ rfl (by decide) _ _ _ rfl rfl ?_; intro m1 nm1 hm1; rw [ht.val] at hm1) | (refine wpList_fbin (o := ⟨some 49, _, _, _, _, _⟩) rfl _ _ _ _ _ rfl (by decide) _ _ _ rfl rfl ?_; intro p1 np1 hp1; rw [vONE, hm1.val] at hp1) | (go_at_call 23; refine (math_Sqrt _ _).mono ?_; rintro e w' ⟨q1, rfl, hq1, nq1, rfl⟩; rw [hp1.val] at hq1) | (refine wpList_fbin (o := ⟨some 51, _, _, _, _, _⟩) rfl _ _ _ _ _ rfl (by decide) _ _ _ rfl rfl ?_; intro d1 nd1 hd1; rw [vONE, hq1.val] at hd1) | (refine wpList_fbin (o := ⟨some 52, _, _, _, _, _⟩) rfl _ _ _ _ _ rfl (by decide) _ _ _ rfl rfl ?_; intro r1 nr1 hr1; rw [ht.val, hd1.val] at hr1) | fail)
      go_roundw
      case rel => exact ⟨i + 1, _, hlt, rfl, by simp, hr1, _, rfl⟩
      case measure => simp [intOf]; omega
    · obtain rfl : i = 3 := by omega
      clear hi hlt
      go_wp2_with (first | (refine wpList_fbin (o := ⟨some 56, _, _, _, _, _⟩) rfl _ _ _ _ _ rfl (by decide) _ _ _ rfl rfl ?_; intro u nu hu; rw [ht.val] at hu) | fail)
      go_loopw [9, 10] (fun p k wr => ∃ i : Nat, i ≤ 8 ∧ ∃ pb : Nat, p = .float .f64 pb ∧ k = .float .f64 (logK (i + 5)) ∧ FR .f64 pb (angQ (bin .mul .f64 (angT (angS true (W y % 9223372036854775808) (W x % 9223372036854775808)) 3) (angT (angS true (W y % 9223372036854775808) (W x % 9223372036854775808)) 3)) i) ∧ ∃ n, wr = w.drewN n) (fun _ k _ => match k with | .float _ b => if b < 9223372036854775808 then b else 0 | _ => 0)
      case atStart => exact ⟨0, by omega, _, rfl, by rw [logK5], ⟨by decide, vZERO⟩, _, rfl⟩
      case round =>
        obtain ⟨i, hi, pb, rfl, rfl, hpp, nw, rfl⟩ := hrel
        by_cases hlt : i < 8
        · have hvk : Hid (val .f64 (logK (i + 5)) = some (logK (i + 5))) := (ang_consts i hlt).1
          have hks : Hid (bin .sub .f64 (some (logK (i + 5))) (some TWO) = some (logK (i + 1 + 5))) := (ang_consts i hlt).2.1
          have ht' : (FloatKind.f64.format.order (logK (i + 5)) 4607182418800017408 == some .gt || FloatKind.f64.format.order (logK (i + 5)) 4607182418800017408 == some .eq) = true := (ang_consts i hlt).2.2.2
          have hlt' : i + 1 ≤ 8 := hlt
          have hml := logK_lt (i + 5) (by omega)
          clear hi hlt
          go_wp2_with (first | (refine wpList_fbin (o := ⟨some 62, _, _, _, _, _⟩) rfl _ _ _ _ _ rfl (by decide) _ _ _ rfl rfl ?_; intro c1 nc1 hc1; rw [vONE, hvk.out] at hc1) | (refine wpList_fbin (o := ⟨some 65, _, _, _, _, _⟩) rfl _ _ _ _ _ rfl (by decide) _ _ _ rfl rfl ?_; intro c2 nc2 hc2; rw [hu.val, hpp.val] at hc2) | (refine wpList_fbin (o := ⟨some 66, _, _, _, _, _⟩) rfl _ _ _ _ _ rfl (by decide) _ _ _ rfl rfl ?_; intro c3 nc3 hc3; rw [hc1.val, hc2.val] at hc3) | (refine wpList_fbin (o := ⟨some 60, _, _, _, _, _⟩) rfl _ _ _ _ _ rfl (by decide) _ _ _ rfl rfl ?_; intro kk nkk hkk; rw [hvk.out, vTWO, hks.out] at hkk) | fail)
          go_roundw
          case rel => exact ⟨i + 1, hlt', _, rfl, by rw [← val_some hkk.val], hc3, _, rfl⟩
          case measure => rw [show i + 5 + 1 = i + 1 + 5 by omega, val_some hkk.val] at hml; exact hml
        · obtain rfl : i = 8 := by omega
          have ht' : (FloatKind.f64.format.order (logK (8 + 5)) 4607182418800017408 == some .gt || FloatKind.f64.format.order (logK (8 + 5)) 4607182418800017408 == some .eq) = false := log_end
          clear hi hlt
          go_wp2_with (first | (refine wpList_fbin (o := ⟨some 69, _, _, _, _, _⟩) rfl _ _ _ _ _ rfl (by decide) _ _ _ rfl rfl ?_; intro e1 ne1 he1; rw [ht.val, hpp.val] at he1) | (refine wpList_fbin (o := ⟨some 70, _, _, _, _, _⟩) rfl _ _ _ _ _ rfl (by decide) _ _ _ rfl rfl ?_; intro e2 ne2 he2; rw [vEIGHT, he1.val] at he2) | (refine wpList_fbin (o := ⟨some 71, _, _, _, _, _⟩) rfl _ _ _ _ _ rfl (by decide) _ _ _ rfl rfl ?_; intro e3 ne3 he3; rw [he2.val, vTURN] at he3) | (refine wpList_fbin (o := ⟨some 76, _, _, _, _, _⟩) rfl _ _ _ _ _ rfl (by decide) _ _ _ rfl rfl ?_; intro e4 ne4 he4; rw [vQUARTER, he3.val] at he4) | (refine wpList_narrow (o := ⟨some 86, _, _, _, _, _⟩) rfl _ _ _ rfl _ rfl (by kernel_rfl) (by kernel_rfl) (by rw [(FR_neg64 he4).val]; exact HOK.out) ?_; intro r nr hr) | fail)
          go_ret
          refine ⟨r, rfl, ?_, _, rfl⟩
          rw [(FR_neg64 he4).val] at hr
          exact hr

theorem impl_Angle_1000 (y x : Nat) (hfx : isFin (val .f32 x) = true) (hfy : isFin (val .f32 y) = true) (hvx : val .f32 x = some x) (hvy : val .f32 y = some y)
    (t0 : (FloatKind.f32.format.order x 0 == some .eq) = false) (t1 : (FloatKind.f64.format.order (W y % 9223372036854775808) (W x % 9223372036854775808) == some .gt) = true) (t2 : (FloatKind.f32.format.order x 0 == some .lt) = false) (t3 : (FloatKind.f32.format.order y 0 == some .lt) = false)
    (va : val .f64 (W y % 9223372036854775808) = some (W y % 9223372036854775808)) (vb : val .f64 (W x % 9223372036854775808) = some (W x % 9223372036854775808)) (hok : NarOk (angV true false false (W y % 9223372036854775808) (W x % 9223372036854775808))) (w : World) :
    Calls Try.prog 14 #[.float .f32 y, .float .f32 x] w fun e w' => ∃ r, e = .returned (.float .f32 r) ∧ FR .f32 r (nar (angV true false false (W y % 9223372036854775808) (W x % 9223372036854775808))) ∧ ∃ n, w' = w.drewN n := by
  have Hvx : Hid (val .f32 x = some x) := hvx
  have Hvy : Hid (val .f32 y = some y) := hvy
  have Va : Hid (val .f64 (W y % 9223372036854775808) = some (W y % 9223372036854775808)) := va
  have Vb : Hid (val .f64 (W x % 9223372036854775808) = some (W x % 9223372036854775808)) := vb
  have HOK : Hid (NarOk (angV true false false (W y % 9223372036854775808) (W x % 9223372036854775808))) := hok
  clear hvx hvy va vb hok
  go_enter Try.func14, Try.ntmps14
  go_wp2_with (first | (go_at_call 20; refine (impl_IsFinite _ _).mono ?_; rintro e w' ⟨rfl, nf, rfl⟩) | ((refine wpList_widen (o := ⟨some 29, _, _, _, _, _⟩) rfl _ _ _ rfl _ rfl (by kernel_rfl) (by kernel_rfl) ?_; intro p np hp); obtain rfl := (FR_wid Hvy.out hp).2; have lp : W y < 18446744073709551616 := hp.lt) | ((refine wpList_widen (o := ⟨some 32, _, _, _, _, _⟩) rfl _ _ _ rfl _ rfl (by kernel_rfl) (by kernel_rfl) ?_; intro q nq hq); obtain rfl := (FR_wid Hvx.out hq).2; have lq : W x < 18446744073709551616 := hq.lt) | (go_at_call 22; first | (refine (math_Abs _ lq _).mono ?_; rintro e w' ⟨rfl, rfl⟩) | (refine (math_Abs _ lp _).mono ?_; rintro e w' ⟨rfl, rfl⟩)) | (refine wpList_fbin (o := ⟨some 36, _, _, _, _, _⟩) rfl _ _ _ _ _ rfl (by decide) _ _ _ rfl rfl ?_; intro s0 ns0 hs0) | (refine wpList_fbin (o := ⟨some 42, _, _, _, _, _⟩) rfl _ _ _ _ _ rfl (by decide) _ _ _ rfl rfl ?_; intro t nt ht; rw [Vb.out, Va.out] at ht) | fail)
  have ht0 : FR .f64 t (angT (angS true (W y % 9223372036854775808) (W x % 9223372036854775808)) 0) := ht
  clear ht
  go_loopw [7, 43] (fun t k wr => ∃ (i tb : Nat), i ≤ 3 ∧ t = .float .f64 tb ∧ k = .int .i64 (i : Int) ∧ FR .f64 tb (angT (angS true (W y % 9223372036854775808) (W x % 9223372036854775808)) i) ∧ ∃ n, wr = w.drewN n) (fun _ k _ => 3 - (intOf k).toNat)
  case atStart => exact ⟨0, _, Nat.zero_le _, rfl, rfl, ht0, _, rfl⟩
  case round =>
    obtain ⟨i, t, hi, rfl, rfl, ht, nw, rfl⟩ := hrel
    by_cases hlt : i < 3
    · have b1 : (i : Int) < 3 := by omega
      go_wp2_with (first | (refine wpList_fbin (o := ⟨some 48, _, _, _, _, _⟩) rfl _ _ _ _ _ rfl (by decide) _ _ _ rfl rfl ?_; intro m1 nm1 hm1; rw [ht.val] at hm1) | (refine wpList_fbin (o := ⟨some 49, _, _, _, _, _⟩) rfl _ _ _ _ _ rfl (by decide) _ _ _ rfl rfl ?_; intro p1 np1 hp1; rw [vONE, hm1.val] at hp1) | (go_at_call 23; refine (math_Sqrt _ _).mono ?_; rintro e w' ⟨q1, rfl, hq1, nq1, rfl⟩; rw [hp1.val] at hq1) | (refine wpList_fbin (o := ⟨some 51, _, _, _, _, _⟩) rfl _ _ _ _ _ rfl (by decide) _ _ _ rfl rfl ?_; intro d1 nd1 hd1; rw [vONE, hq1.val] at hd1) | (refine wpList_fbin (o := ⟨some 52, _, _, _, _, _⟩) rfl _ _ _ _ _ rfl (by decide) _ _ _ rfl rfl ?_; intro r1 nr1 hr1; rw [ht.val, hd1.val] at hr1) | fail)
      go_roundw
      case rel => exact ⟨i + 1, _, hlt, rfl, by simp, hr1, _, rfl⟩
      case measure => simp [intOf]; omega
    · obtain rfl : i = 3 := by omega
      clear hi hlt
      go_wp2_with (first | (refine wpList_fbin (o := ⟨some 56, _, _, _, _, _⟩) rfl _ _ _ _ _ rfl (by decide) _ _ _ rfl rfl ?_; intro u nu hu; rw [ht.val] at hu) | fail)
      go_loopw [9, 10] (fun p k wr => ∃ i : Nat, i ≤ 8 ∧ ∃ pb : Nat, p = .float .f64 pb ∧ k = .float .f64 (logK (i + 5)) ∧ FR .f64 pb (angQ (bin .mul .f64 (angT (angS true (W y % 9223372036854775808) (W x % 9223372036854775808)) 3) (angT (angS true (W y % 9223372036854775808) (W x % 9223372036854775808)) 3)) i) ∧ ∃ n, wr = w.drewN n) (fun _ k _ => match k with | .float _ b => if b < 9223372036854775808 then b else 0 | _ => 0)
      case atStart => exact ⟨0, by omega, _, rfl, by rw [logK5], ⟨by decide, vZERO⟩, _, rfl⟩
      case round =>
        obtain ⟨i, hi, pb, rfl, rfl, hpp, nw, rfl⟩ := hrel
        by_cases hlt : i < 8
        · have hvk : Hid (val .f64 (logK (i + 5)) = some (logK (i + 5))) := (ang_consts i hlt).1
          have hks : Hid (bin .sub .f64 (some (logK (i + 5))) (some TWO) = some (logK (i + 1 + 5))) := (ang_consts i hlt).2.1
          have ht' : (FloatKind.f64.format.order (logK (i + 5)) 4607182418800017408 == some .gt || FloatKind.f64.format.order (logK (i + 5)) 4607182418800017408 == some .eq) = true := (ang_consts i hlt).2.2.2
          have hlt' : i + 1 ≤ 8 := hlt
          have hml := logK_lt (i + 5) (by omega)
          clear hi hlt
          go_wp2_with (first | (refine wpList_fbin (o := ⟨some 62, _, _, _, _, _⟩) rfl _ _ _ _ _ rfl (by decide) _ _ _ rfl rfl ?_; intro c1 nc1 hc1; rw [vONE, hvk.out] at hc1) | (refine wpList_fbin (o := ⟨some 65, _, _, _, _, _⟩) rfl _ _ _ _ _ rfl (by decide) _ _ _ rfl rfl ?_; intro c2 nc2 hc2; rw [hu.val, hpp.val] at hc2) | (refine wpList_fbin (o := ⟨some 66, _, _, _, _, _⟩) rfl _ _ _ _ _ rfl (by decide) _ _ _ rfl rfl ?_; intro c3 nc3 hc3; rw [hc1.val, hc2.val] at hc3) | (refine wpList_fbin (o := ⟨some 60, _, _, _, _, _⟩) rfl _ _ _ _ _ rfl (by decide) _ _ _ rfl rfl ?_; intro kk nkk hkk; rw [hvk.out, vTWO, hks.out] at hkk) | fail)
          go_roundw
          case rel => exact ⟨i + 1, hlt', _, rfl, by rw [← val_some hkk.val], hc3, _, rfl⟩
          case measure => rw [show i + 5 + 1 = i + 1 + 5 by omega, val_some hkk.val] at hml; exact hml
        · obtain rfl : i = 8 := by omega
          have ht' : (FloatKind.f64.format.order (logK (8 + 5)) 4607182418800017408 == some .gt || FloatKind.f64.format.order (logK (8 + 5)) 4607182418800017408 == some .eq) = false := log_end
          clear hi hlt
          go_wp2_with (first | (refine wpList_fbin (o := ⟨some 69, _, _, _, _, _⟩) rfl _ _ _ _ _ rfl (by decide) _ _ _ rfl rfl ?_; intro e1 ne1 he1; rw [ht.val, hpp.val] at he1) | (refine wpList_fbin (o := ⟨some 70, _, _, _, _, _⟩) rfl _ _ _ _ _ rfl (by decide) _ _ _ rfl rfl ?_; intro e2 ne2 he2; rw [vEIGHT, he1.val] at he2) | (refine wpList_fbin (o := ⟨some 71, _, _, _, _, _⟩) rfl _ _ _ _ _ rfl (by decide) _ _ _ rfl rfl ?_; intro e3 ne3 he3; rw [he2.val, vTURN] at he3) | (refine wpList_fbin (o := ⟨some 76, _, _, _, _, _⟩) rfl _ _ _ _ _ rfl (by decide) _ _ _ rfl rfl ?_; intro e4 ne4 he4; rw [vQUARTER, he3.val] at he4) | (refine wpList_narrow (o := ⟨some 86, _, _, _, _, _⟩) rfl _ _ _ rfl _ rfl (by kernel_rfl) (by kernel_rfl) (by rw [he4.val]; exact HOK.out) ?_; intro r nr hr) | fail)
          go_ret
          refine ⟨r, rfl, ?_, _, rfl⟩
          rw [he4.val] at hr
          exact hr

theorem impl_Angle_0110 (y x : Nat) (hfx : isFin (val .f32 x) = true) (hfy : isFin (val .f32 y) = true) (hvx : val .f32 x = some x) (hvy : val .f32 y = some y)
    (t0 : (FloatKind.f32.format.order x 0 == some .eq) = false) (t1 : (FloatKind.f64.format.order (W y % 9223372036854775808) (W x % 9223372036854775808) == some .gt) = false) (t2 : (FloatKind.f32.format.order x 0 == some .lt) = true) (t3 : (FloatKind.f32.format.order y 0 == some .lt) = true)
    (va : val .f64 (W y % 9223372036854775808) = some (W y % 9223372036854775808)) (vb : val .f64 (W x % 9223372036854775808) = some (W x % 9223372036854775808)) (hok : NarOk (angV false true true (W y % 9223372036854775808) (W x % 9223372036854775808))) (w : World) :
    Calls Try.prog 14 #[.float .f32 y, .float .f32 x] w fun e w' => ∃ r, e = .returned (.float .f32 r) ∧ FR .f32 r (nar (angV false true true (W y % 9223372036854775808) (W x % 9223372036854775808))) ∧ ∃ n, w' = w.drewN n := by
  have Hvx : Hid (val .f32 x = some x) := hvx
  have Hvy : Hid (val .f32 y = some y) := hvy
  have Va : Hid (val .f64 (W y % 9223372036854775808) = some (W y % 9223372036854775808)) := va
  have Vb : Hid (val .f64 (W x % 9223372036854775808) = some (W x % 9223372036854775808)) := vb
  have HOK : Hid (NarOk (angV false true true (W y % 9223372036854775808) (W x % 9223372036854775808))) := hok
  clear hvx hvy va vb hok
  go_enter Try.func14, Try.ntmps14
  go_wp2_with (first | (go_at_call 20; refine (impl_IsFinite _ _).mono ?_; rintro e w' ⟨rfl, nf, rfl⟩) | ((refine wpList_widen (o := ⟨some 29, _, _, _, _, _⟩) rfl _ _ _ rfl _ rfl (by kernel_rfl) (by kernel_rfl) ?_; intro p np hp); obtain rfl := (FR_wid Hvy.out hp).2; have lp : W y < 18446744073709551616 := hp.lt) | ((refine wpList_widen (o := ⟨some 32, _, _, _, _, _⟩) rfl _ _ _ rfl _ rfl (by kernel_rfl) (by kernel_rfl) ?_; intro q nq hq); obtain rfl := (FR_wid Hvx.out hq).2; have lq : W x < 18446744073709551616 := hq.lt) | (go_at_call 22; first | (refine (math_Abs _ lq _).mono ?_; rintro e w' ⟨rfl, rfl⟩) | (refine (math_Abs _ lp _).mono ?_; rintro e w' ⟨rfl, rfl⟩)) | (refine wpList_fbin (o := ⟨some 36, _, _, _, _, _⟩) rfl _ _ _ _ _ rfl (by decide) _ _ _ rfl rfl ?_; intro t nt ht; rw [Va.out, Vb.out] at ht) | fail)
  have ht0 : FR .f64 t (angT (angS false (W y % 9223372036854775808) (W x % 9223372036854775808)) 0) := ht
  clear ht
  go_loopw [7, 43] (fun t k wr => ∃ (i tb : Nat), i ≤ 3 ∧ t = .float .f64 tb ∧ k = .int .i64 (i : Int) ∧ FR .f64 tb (angT (angS false (W y % 9223372036854775808) (W x % 9223372036854775808)) i) ∧ ∃ n, wr = w.drewN n) (fun _ k _ => 3 - (intOf k).toNat)
  case atStart => exact ⟨0, _, Nat.zero_le _, rfl, rfl, ht0, _, rfl⟩
  case round =>
    obtain ⟨i, t, hi, rfl, rfl, ht, nw, rfl⟩ := hrel
    by_cases hlt : i < 3
    · have b1 : (i : Int) < 3 := by omega
      go_wp2_with (first | (refine wpList_fbin (o := ⟨some 48, _, _, _, _, _⟩) rfl _ _ _ _ _ rfl (by decide) _ _ _ rfl rfl ?_; intro m1 nm1 hm1; rw [ht.val] at hm1) | (refine wpList_fbin (o := ⟨some 49, _, _, _, _, _⟩) rfl _ _ _ _ _ rfl (by decide) _ _ _ rfl rfl ?_; intro p1 np1 hp1; rw [vONE, hm1.val] at hp1) | (go_at_call 23; refine (math_Sqrt _ _).mono ?_; rintro e w' ⟨q1, rfl, hq1, nq1, rfl⟩; rw [hp1.val] at hq1) | (refine wpList_fbin (o := ⟨some 51, _, _, _, _, _⟩) rfl _ _ _ _ _ rfl (by decide) _ _ _ rfl rfl ?_; intro d1 nd1 hd1; rw [vONE, hq1.val] at hd1) | (refine wpList_fbin (o := ⟨some 52, _, _, _, _, _⟩) rfl _ _ _ _ _ rfl (by decide) _ _ _ rfl rfl ?_; intro r1 nr1 hr1; rw [ht.val, hd1.val] at hr1) | fail)
      go_roundw
      case rel => exact ⟨i + 1, _, hlt, rfl, by simp, hr1, _, rfl⟩
      case measure => simp [intOf]; omega
    · obtain rfl : i = 3 := by omega
      clear hi hlt
      go_wp2_with (first | (refine wpList_fbin (o := ⟨some 56, _, _, _, _, _⟩) rfl _ _ _ _ _ rfl (by decide) _ _ _ rfl rfl ?_; intro u nu hu; rw [ht.val] at hu) | fail)
      go_loopw [9, 10] (fun p k wr => ∃ i : Nat, i ≤ 8 ∧ ∃ pb : Nat, p = .float .f64 pb ∧ k = .float .f64 (logK (i + 5)) ∧ FR .f64 pb (angQ (bin .mul .f64 (angT (angS false (W y % 9223372036854775808) (W x % 9223372036854775808)) 3) (angT (angS false (W y % 9223372036854775808) (W x % 9223372036854775808)) 3)) i) ∧ ∃ n, wr = w.drewN n) (fun _ k _ => match k with | .float _ b => if b < 9223372036854775808 then b else 0 | _ => 0)
      case atStart => exact ⟨0, by omega, _, rfl, by rw [logK5], ⟨by decide, vZERO⟩, _, rfl⟩
      case round =>
        obtain ⟨i, hi, pb, rfl, rfl, hpp, nw, rfl⟩ := hrel
        by_cases hlt : i < 8
        · have hvk : Hid (val .f64 (logK (i + 5)) = some (logK (i + 5))) := (ang_consts i hlt).1
          have hks : Hid (bin .sub .f64 (some (logK (i + 5))) (some TWO) = some (logK (i + 1 + 5))) := (ang_consts i hlt).2.1
          have ht' : (FloatKind.f64.format.order (logK (i + 5)) 4607182418800017408 == some .gt || FloatKind.f64.format.order (logK (i + 5)) 4607182418800017408 == some .eq) = true := (ang_consts i hlt).2.2.2
          have hlt' : i + 1 ≤ 8 := hlt
          have hml := logK_lt (i + 5) (by omega)
          clear hi hlt
          go_wp2_with (first | (refine wpList_fbin (o := ⟨some 62, _, _, _, _, _⟩) rfl _ _ _ _ _ rfl (by decide) _ _ _ rfl rfl ?_; intro c1 nc1 hc1; rw [vONE, hvk.out] at hc1) | (refine wpList_fbin (o := ⟨some 65, _, _, _, _, _⟩) rfl _ _ _ _ _ rfl (by decide) _ _ _ rfl rfl ?_; intro c2 nc2 hc2; rw [hu.val, hpp.val] at hc2) | (refine wpList_fbin (o := ⟨some 66, _, _, _, _, _⟩) rfl _ _ _ _ _ rfl (by decide) _ _ _ rfl rfl ?_; intro c3 nc3 hc3; rw [hc1.val, hc2.val] at hc3) | (refine wpList_fbin (o := ⟨some 60, _, _, _, _, _⟩) rfl _ _ _ _ _ rfl (by decide) _ _ _ rfl rfl ?_; intro kk nkk hkk; rw [hvk.out, vTWO, hks.out] at hkk) | fail)
          go_roundw
          case rel => exact ⟨i + 1, hlt', _, rfl, by rw [← val_some hkk.val], hc3, _, rfl⟩
          case measure => rw [show i + 5 + 1 = i + 1 + 5 by omega, val_some hkk.val] at hml; exact hml
        · obtain rfl : i = 8 := by omega
          have ht' : (FloatKind.f64.format.order (logK (8 + 5)) 4607182418800017408 == some .gt || FloatKind.f64.format.order (logK (8 + 5)) 4607182418800017408 == some .eq) = false := log_end
          clear hi hlt
          go_wp2_with (first | (refine wpList_fbin (o := ⟨some 69, _, _, _, _, _⟩) rfl _ _ _ _ _ rfl (by decide) _ _ _ rfl rfl ?_; intro e1 ne1 he1; rw [ht.val, hpp.val] at he1) | (refine wpList_fbin (o := ⟨some 70, _, _, _, _, _⟩) rfl _ _ _ _ _ rfl (by decide) _ _ _ rfl rfl ?_; intro e2 ne2 he2; rw [vEIGHT, he1.val] at he2) | (refine wpList_fbin (o := ⟨some 71, _, _, _, _, _⟩) rfl _ _ _ _ _ rfl (by decide) _ _ _ rfl rfl ?_; intro e3 ne3 he3; rw [he2.val, vTURN] at he3) | (refine wpList_fbin (o := ⟨some 80, _, _, _, _, _⟩) rfl _ _ _ _ _ rfl (by decide) _ _ _ rfl rfl ?_; intro e5 ne5 he5; rw [vHALF, he3.val] at he5) | (refine wpList_narrow (o := ⟨some 86, _, _, _, _, _⟩) rfl _ _ _ rfl _ rfl (by kernel_rfl) (by kernel_rfl) (by rw [(FR_neg64 he5).val]; exact HOK.out) ?_; intro r nr hr) | fail)
          go_ret
          refine ⟨r, rfl, ?_, _, rfl⟩
          rw [(FR_neg64 he5).val] at hr
          exact hr

theorem impl_Angle_0100 (y x : Nat) (hfx : isFin (val .f32 x) = true) (hfy : isFin (val .f32 y) = true) (hvx : val .f32 x = some x) (hvy : val .f32 y = some y)
    (t0 : (FloatKind.f32.format.order x 0 == some .eq) = false) (t1 : (FloatKind.f64.format.order (W y % 9223372036854775808) (W x % 9223372036854775808) == some .gt) = false) (t2 : (FloatKind.f32.format.order x 0 == some .lt) = true) (t3 : (FloatKind.f32.format.order y 0 == some .lt) = false)
    (va : val .f64 (W y % 9223372036854775808) = some (W y % 9223372036854775808)) (vb : val .f64 (W x % 9223372036854775808) = some (W x % 9223372036854775808)) (hok : NarOk (angV false true false (W y % 9223372036854775808) (W x % 9223372036854775808))) (w : World) :
    Calls Try.prog 14 #[.float .f32 y, .float .f32 x] w fun e w' => ∃ r, e = .returned (.float .f32 r) ∧ FR .f32 r (nar (angV false true false (W y % 9223372036854775808) (W x % 9223372036854775808))) ∧ ∃ n, w' = w.drewN n := by
  have Hvx : Hid (val .f32 x = some x) := hvx
  have Hvy : Hid (val .f32 y = some y) := hvy
  have Va : Hid (val .f64 (W y % 9223372036854775808) = some (W y % 9223372036854775808)) := va
  have Vb : Hid (val .f64 (W x % 9223372036854775808) = some (W x % 9223372036854775808)) := vb
  have HOK : Hid (NarOk (angV false true false (W y % 9223372036854775808) (W x % 9223372036854775808))) := hok
  clear hvx hvy va vb hok
  go_enter Try.func14, Try.ntmps14
  go_wp2_with (first | (go_at_call 20; refine (impl_IsFinite _ _).mono ?_; rintro e w' ⟨rfl, nf, rfl⟩) | ((refine wpList_widen (o := ⟨some 29, _, _, _, _, _⟩) rfl _ _ _ rfl _ rfl (by kernel_rfl) (by kernel_rfl) ?_; intro p np hp); obtain rfl := (FR_wid Hvy.out hp).2; have lp : W y < 18446744073709551616 := hp.lt) | ((refine wpList_widen (o := ⟨some 32, _, _, _, _, _⟩) rfl _ _ _ rfl _ rfl (by kernel_rfl) (by kernel_rfl) ?_; intro q nq hq); obtain rfl := (FR_wid Hvx.out hq).2; have lq : W x < 18446744073709551616 := hq.lt) | (go_at_call 22; first | (refine (math_Abs _ lq _).mono ?_; rintro e w' ⟨rfl, rfl⟩) | (refine (math_Abs _ lp _).mono ?_; rintro e w' ⟨rfl, rfl⟩)) | (refine wpList_fbin (o := ⟨some 36, _, _, _, _, _⟩) rfl _ _ _ _ _ rfl (by decide) _ _ _ rfl rfl ?_; intro t nt ht; rw [Va.out, Vb.out] at ht) | fail)
  have ht0 : FR .f64 t (angT (angS false (W y % 9223372036854775808) (W x % 9223372036854775808)) 0) := ht
  clear ht
  go_loopw [7, 43] (fun t k wr => ∃ (i tb : Nat), i ≤ 3 ∧ t = .float .f64 tb ∧ k = .int .i64 (i : Int) ∧ FR .f64 tb (angT (angS false (W y % 9223372036854775808) (W x % 9223372036854775808)) i) ∧ ∃ n, wr = w.drewN n) (fun _ k _ => 3 - (intOf k).toNat)
  case atStart => exact ⟨0, _, Nat.zero_le _, rfl, rfl, ht0, _, rfl⟩
  case round =>
    obtain ⟨i, t, hi, rfl, rfl, ht, nw, rfl⟩ := hrel
    by_cases hlt : i < 3
    · have b1 : (i : Int) < 3 := by omega
      go_wp2_with (first | (refine wpList_fbin (o := ⟨some 48, _, _, _, _, _⟩) rfl _ _ _ _ _ rfl (by decide) _ _ _ rfl rfl ?_; intro m1 nm1 hm1; rw [ht.val] at hm1) | (refine wpList_fbin (o := ⟨some 49, _, _, _, _, _⟩) rfl _ _ _ _ _ rfl (by decide) _ _ _ rfl rfl ?_; intro p1 np1 hp1; rw [vONE, hm1.val] at hp1) | (go_at_call 23; refine (math_Sqrt _ _).mono ?_; rintro e w' ⟨q1, rfl, hq1, nq1, rfl⟩; rw [hp1.val] at hq1) | (refine wpList_fbin (o := ⟨some 51, _, _, _, _, _⟩) rfl _ _ _ _ _ rfl (by decide) _ _ _ rfl rfl ?_; intro d1 nd1 hd1; rw [vONE, hq1.val] at hd1) | (refine wpList_fbin (o := ⟨some 52, _, _, _, _, _⟩) rfl _ _ _ _ _ rfl (by decide) _ _ _ rfl rfl ?_; intro r1 nr1 hr1; rw [ht.val, hd1.val] at hr1) | fail)
      go_roundw
      case rel => exact ⟨i + 1, _, hlt, rfl, by simp, hr1, _, rfl⟩
      case measure => simp [intOf]; omega
    · obtain rfl : i = 3 := by omega
      clear hi hlt
      go_wp2_with (first | (refine wpList_fbin (o := ⟨some 56, _, _, _, _, _⟩) rfl _ _ _ _ _ rfl (by decide) _ _ _ rfl rfl ?_; intro u nu hu; rw [ht.val] at hu) | fail)
      go_loopw [9, 10] (fun p k wr => ∃ i : Nat, i ≤ 8 ∧ ∃ pb : Nat, p = .float .f64 pb ∧ k = .float .f64 (logK (i + 5)) ∧ FR .f64 pb (angQ (bin .mul .f64 (angT (angS false (W y % 9223372036854775808) (W x % 9223372036854775808)) 3) (angT (angS false (W y % 9223372036854775808) (W x % 9223372036854775808)) 3)) i) ∧ ∃ n, wr = w.drewN n) (fun _ k _ => match k with | .float _ b => if b < 9223372036854775808 then b else 0 | _ => 0)
      case atStart => exact ⟨0, by omega, _, rfl, by rw [logK5], ⟨by decide, vZERO⟩, _, rfl⟩
      case round =>
        obtain ⟨i, hi, pb, rfl, rfl, hpp, nw, rfl⟩ := hrel
        by_cases hlt : i < 8
        · have hvk : Hid (val .f64 (logK (i + 5)) = some (logK (i + 5))) := (ang_consts i hlt).1
          have hks : Hid (bin .sub .f64 (some (logK (i + 5))) (some TWO) = some (logK (i + 1 + 5))) := (ang_consts i hlt).2.1
          have ht' : (FloatKind.f64.format.order (logK (i + 5)) 4607182418800017408 == some .gt || FloatKind.f64.format.order (logK (i + 5)) 4607182418800017408 == some .eq) = true := (ang_consts i hlt).2.2.2
          have hlt' : i + 1 ≤ 8 := hlt
          have hml := logK_lt (i + 5) (by omega)
          clear hi hlt
          go_wp2_with (first | (refine wpList_fbin (o := ⟨some 62, _, _, _, _, _⟩) rfl _ _ _ _ _ rfl (by decide) _ _ _ rfl rfl ?_; intro c1 nc1 hc1; rw [vONE, hvk.out] at hc1) | (refine wpList_fbin (o := ⟨some 65, _, _, _, _, _⟩) rfl _ _ _ _ _ rfl (by decide) _ _ _ rfl rfl ?_; intro c2 nc2 hc2; rw [hu.val, hpp.val] at hc2) | (refine wpList_fbin (o := ⟨some 66, _, _, _, _, _⟩) rfl _ _ _ _ _ rfl (by decide) _ _ _ rfl rfl ?_; intro c3 nc3 hc3; rw [hc1.val, hc2.val] at hc3) | (refine wpList_fbin (o := ⟨some 60, _, _, _, _, _⟩) rfl _ _ _ _ _ rfl (by decide) _ _ _ rfl rfl ?_; intro kk nkk hkk; rw [hvk.out, vTWO, hks.out] at hkk) | fail)
          go_roundw
          case rel => exact ⟨i + 1, hlt', _, rfl, by rw [← val_some hkk.val], hc3, _, rfl⟩
          case measure => rw [show i + 5 + 1 = i + 1 + 5 by omega, val_some hkk.val] at hml; exact hml
        · obtain rfl : i = 8 := by omega
          have ht' : (FloatKind.f64.format.order (logK (8 + 5)) 4607182418800017408 == some .gt || FloatKind.f64.format.order (logK (8 + 5)) 4607182418800017408 == some .eq) = false := log_end
          clear hi hlt
          go_wp2_with (first | (refine wpList_fbin (o := ⟨some 69, _, _, _, _, _⟩) rfl _ _ _ _ _ rfl (by decide) _ _ _ rfl rfl ?_; intro e1 ne1 he1; rw [ht.val, hpp.val] at he1) | (refine wpList_fbin (o := ⟨some 70, _, _, _, _, _⟩) rfl _ _ _ _ _ rfl (by decide) _ _ _ rfl rfl ?_; intro e2 ne2 he2; rw [vEIGHT, he1.val] at he2) | (refine wpList_fbin (o := ⟨some 71, _, _, _, _, _⟩) rfl _ _ _ _ _ rfl (by decide) _ _ _ rfl rfl ?_; intro e3 ne3 he3; rw [he2.val, vTURN] at he3) | (refine wpList_fbin (o := ⟨some 80, _, _, _, _, _⟩) rfl _ _ _ _ _ rfl (by decide) _ _ _ rfl rfl ?_; intro e5 ne5 he5; rw [vHALF, he3.val] at he5) | (refine wpList_narrow (o := ⟨some 86, _, _, _, _, _⟩) rfl _ _ _ rfl _ rfl (by kernel_rfl) (by kernel_rfl) (by rw [he5.val]; exact HOK.out) ?_; intro r nr hr) | fail)
          go_ret
          refine ⟨r, rfl, ?_, _, rfl⟩
          rw [he5.val] at hr
          exact hr

theorem impl_Angle_0010 (y x : Nat) (hfx : isFin (val .f32 x) = true) (hfy : isFin (val .f32 y) = true) (hvx : val .f32 x = some x) (hvy : val .f32 y = some y)
    (t0 : (FloatKind.f32.format.order x 0 == some .eq) = false) (t1 : (FloatKind.f64.format.order (W y % 9223372036854775808) (W x % 9223372036854775808) == some .gt) = false) (t2 : (FloatKind.f32.format.order x 0 == some .lt) = false) (t3 : (FloatKind.f32.format.order y 0 == some .lt) = true)
    (va : val .f64 (W y % 9223372036854775808) = some (W y % 9223372036854775808)) (vb : val .f64 (W x % 9223372036854775808) = some (W x % 9223372036854775808)) (hok : NarOk (angV false false true (W y % 9223372036854775808) (W x % 9223372036854775808))) (w : World) :
    Calls Try.prog 14 #[.float .f32 y, .float .f32 x] w fun e w' => ∃ r, e = .returned (.float .f32 r) ∧ FR .f32 r (nar (angV false false true (W y % 9223372036854775808) (W x % 9223372036854775808))) ∧ ∃ n, w' = w.drewN n := by
  have Hvx : Hid (val .f32 x = some x) := hvx
  have Hvy : Hid (val .f32 y = some y) := hvy
  have Va : Hid (val .f64 (W y % 9223372036854775808) = some (W y % 9223372036854775808)) := va
  have Vb : Hid (val .f64 (W x % 9223372036854775808) = some (W x % 9223372036854775808)) := vb
  have HOK : Hid (NarOk (angV false false true (W y % 9223372036854775808) (W x % 9223372036854775808))) := hok
  clear hvx hvy va vb hok
  go_enter Try.func14, Try.ntmps14
  go_wp2_with (first | (go_at_call 20; refine (impl_IsFinite _ _).mono ?_; rintro e w' ⟨rfl, nf, rfl⟩) | ((refine wpList_widen (o := ⟨some 29, _, _, _, _, _⟩) rfl _ _ _ rfl _ rfl (by kernel_rfl) (by kernel_rfl) ?_; intro p np hp); obtain rfl := (FR_wid Hvy.out hp).2; have lp : W y < 18446744073709551616 := hp.lt) | ((refine wpList_widen (o := ⟨some 32, _, _, _, _, _⟩) rfl _ _ _ rfl _ rfl (by kernel_rfl) (by kernel_rfl) ?_; intro q nq hq); obtain rfl := (FR_wid Hvx.out hq).2; have lq : W x < 18446744073709551616 := hq.lt) | (go_at_call 22; first | (refine (math_Abs _ lq _).mono ?_; rintro e w' ⟨rfl, rfl⟩) | (refine (math_Abs _ lp _).mono ?_; rintro e w' ⟨rfl, rfl⟩)) | (refine wpList_fbin (o := ⟨some 36, _, _, _, _, _⟩) rfl _ _ _ _ _ rfl (by decide) _ _ _ rfl rfl ?_; intro t nt ht; rw [Va.out, Vb.out] at ht) | fail)
  have ht0 : FR .f64 t (angT (angS false (W y % 9223372036854775808) (W x % 9223372036854775808)) 0) := ht
  clear ht
  go_loopw [7, 43] (fun t k wr => ∃ (i tb : Nat), i ≤ 3 ∧ t = .float .f64 tb ∧ k = .int .i64 (i : Int) ∧ FR .f64 tb (angT (angS false (W y % 9223372036854775808) (W x % 9223372036854775808)) i) ∧ ∃ n, wr = w.drewN n) (fun _ k _ => 3 - (intOf k).toNat)
  case atStart => exact ⟨0, _, Nat.zero_le _, rfl, rfl, ht0, _, rfl⟩
  case round =>
    obtain ⟨i, t, hi, rfl, rfl, ht, nw, rfl⟩ := hrel
    by_cases hlt : i < 3
    · have b1 : (i : Int) < 3 := by omega
      go_wp2_with (first | (refine wpList_fbin (o := ⟨some 48, _, _, _, _, _⟩) rfl _ _ _ _ _ rfl (by decide) _ _ _ rfl rfl ?_; intro m1 nm1 hm1; rw [ht.val] at hm1) | (refine wpList_fbin (o := ⟨some 49, _, _, _, _, _⟩) rfl _ _ _ _ _ rfl (by decide) _ _ _ rfl rfl ?_; intro p1 np1 hp1; rw [vONE, hm1.val] at hp1) | (go_at_call 23; refine (math_Sqrt _ _).mono ?_; rintro e w' ⟨q1, rfl, hq1, nq1, rfl⟩; rw [hp1.val] at hq1) | (refine wpList_fbin (o := ⟨some 51, _, _, _, _, _⟩) rfl _ _ _ _ _ rfl (by decide) _ _ _ rfl rfl ?_; intro d1 nd1 hd1; rw [vONE, hq1.val] at hd1) | (refine wpList_fbin (o := ⟨some 52, _, _, _, _, _⟩) rfl _ _ _ _ _ rfl (by decide) _ _ _ rfl rfl ?_; intro r1 nr1 hr1; rw [ht.val, hd1.val] at hr1) | fail)
      go_roundw
      case rel => exact ⟨i + 1, _, hlt, rfl, by simp, hr1, _, rfl⟩
      case measure => simp [intOf]; omega
    · obtain rfl : i = 3 := by omega
      clear hi hlt
      go_wp2_with (first | (refine wpList_fbin (o := ⟨some 56, _, _, _, _, _⟩) rfl _ _ _ _ _ rfl (by decide) _ _ _ rfl rfl ?_; intro u nu hu; rw [ht.val] at hu) | fail)
      go_loopw [9, 10] (fun p k wr => ∃ i : Nat, i ≤ 8 ∧ ∃ pb : Nat, p = .float .f64 pb ∧ k = .float .f64 (logK (i + 5)) ∧ FR .f64 pb (angQ (bin .mul .f64 (angT (angS false (W y % 9223372036854775808) (W x % 9223372036854775808)) 3) (angT (angS false (W y % 9223372036854775808) (W x % 9223372036854775808)) 3)) i) ∧ ∃ n, wr = w.drewN n) (fun _ k _ => match k with | .float _ b => if b < 9223372036854775808 then b else 0 | _ => 0)
      case atStart => exact ⟨0, by omega, _, rfl, by rw [logK5], ⟨by decide, vZERO⟩, _, rfl⟩
      case round =>
        obtain ⟨i, hi, pb, rfl, rfl, hpp, nw, rfl⟩ := hrel
        by_cases hlt : i < 8
        · have hvk : Hid (val .f64 (logK (i + 5)) = some (logK (i + 5))) := (ang_consts i hlt).1
          have hks : Hid (bin .sub .f64 (some (logK (i + 5))) (some TWO) = some (logK (i + 1 + 5))) := (ang_consts i hlt).2.1
          have ht' : (FloatKind.f64.format.order (logK (i + 5)) 4607182418800017408 == some .gt || FloatKind.f64.format.order (logK (i + 5)) 4607182418800017408 == some .eq) = true := (ang_consts i hlt).2.2.2
          have hlt' : i + 1 ≤ 8 := hlt
          have hml := logK_lt (i + 5) (by omega)
          clear hi hlt
          go_wp2_with (first | (refine wpList_fbin (o := ⟨some 62, _, _, _, _, _⟩) rfl _ _ _ _ _ rfl (by decide) _ _ _ rfl rfl ?_; intro c1 nc1 hc1; rw [vONE, hvk.out] at hc1) | (refine wpList_fbin (o := ⟨some 65, _, _, _, _, _⟩) rfl _ _ _ _ _ rfl (by decide) _ _ _ rfl rfl ?_; intro c2 nc2 hc2; rw [hu.val, hpp.val] at hc2) | (refine wpList_fbin (o := ⟨some 66, _, _, _, _, _⟩) rfl _ _ _ _ _ rfl (by decide) _ _ _ rfl rfl ?_; intro c3 nc3 hc3; rw [hc1.val, hc2.val] at hc3) | (refine wpList_fbin (o := ⟨some 60, _, _, _, _, _⟩) rfl _ _ _ _ _ rfl (by decide) _ _ _ rfl rfl ?_; intro kk nkk hkk; rw [hvk.out, vTWO, hks.out] at hkk) | fail)
          go_roundw
          case rel => exact ⟨i + 1, hlt', _, rfl, by rw [← val_some hkk.val], hc3, _, rfl⟩
          case measure => rw [show i + 5 + 1 = i + 1 + 5 by omega, val_some hkk.val] at hml; exact hml
        · obtain rfl : i = 8 := by omega
          have ht' : (FloatKind.f64.format.order (logK (8 + 5)) 4607182418800017408 == some .gt || FloatKind.f64.format.order (logK (8 + 5)) 4607182418800017408 == some .eq) = false := log_end
          clear hi hlt
          go_wp2_with (first | (refine wpList_fbin (o := ⟨some 69, _, _, _, _, _⟩) rfl _ _ _ _ _ rfl (by decide) _ _ _ rfl rfl ?_; intro e1 ne1 he1; rw [ht.val, hpp.val] at he1) | (refine wpList_fbin (o := ⟨some 70, _, _, _, _, _⟩) rfl _ _ _ _ _ rfl (by decide) _ _ _ rfl rfl ?_; intro e2 ne2 he2; rw [vEIGHT, he1.val] at he2) | (refine wpList_fbin (o := ⟨some 71, _, _, _, _, _⟩) rfl _ _ _ _ _ rfl (by decide) _ _ _ rfl rfl ?_; intro e3 ne3 he3; rw [he2.val, vTURN] at he3) | (refine wpList_narrow (o := ⟨some 86, _, _, _, _, _⟩) rfl _ _ _ rfl _ rfl (by kernel_rfl) (by kernel_rfl) (by rw [(FR_neg64 he3).val]; exact HOK.out) ?_; intro r nr hr) | fail)
          go_ret
          refine ⟨r, rfl, ?_, _, rfl⟩
          rw [(FR_neg64 he3).val] at hr
          exact hr

theorem impl_Angle_0000 (y x : Nat) (hfx : isFin (val .f32 x) = true) (hfy : isFin (val .f32 y) = true) (hvx : val .f32 x = some x) (hvy : val .f32 y = some y)
    (t0 : (FloatKind.f32.format.order x 0 == some .eq) = false) (t1 : (FloatKind.f64.format.order (W y % 9223372036854775808) (W x % 9223372036854775808) == some .gt) = false) (t2 : (FloatKind.f32.format.order x 0 == some .lt) = false) (t3 : (FloatKind.f32.format.order y 0 == some .lt) = false)
    (va : val .f64 (W y % 9223372036854775808) = some (W y % 9223372036854775808)) (vb : val .f64 (W x % 9223372036854775808) = some (W x % 9223372036854775808)) (hok : NarOk (angV false false false (W y % 9223372036854775808) (W x % 9223372036854775808))) (w : World) :
    Calls Try.prog 14 #[.float .f32 y, .float .f32 x] w fun e w' => ∃ r, e = .returned (.float .f32 r) ∧ FR .f32 r (nar (angV false false false (W y % 9223372036854775808) (W x % 9223372036854775808))) ∧ ∃ n, w' = w.drewN n := by
  have Hvx : Hid (val .f32 x = some x) := hvx
  have Hvy : Hid (val .f32 y = some y) := hvy
  have Va : Hid (val .f64 (W y % 9223372036854775808) = some (W y % 9223372036854775808)) := va
  have Vb : Hid (val .f64 (W x % 9223372036854775808) = some (W x % 9223372036854775808)) := vb
  have HOK : Hid (NarOk (angV false false false (W y % 9223372036854775808) (W x % 9223372036854775808))) := hok
  clear hvx hvy va vb hok
  go_enter Try.func14, Try.ntmps14
  go_wp2_with (first | (go_at_call 20; refine (impl_IsFinite _ _).mono ?_; rintro e w' ⟨rfl, nf, rfl⟩) | ((refine wpList_widen (o := ⟨some 29, _, _, _, _, _⟩) rfl _ _ _ rfl _ rfl (by kernel_rfl) (by kernel_rfl) ?_; intro p np hp); obtain rfl := (FR_wid Hvy.out hp).2; have lp : W y < 18446744073709551616 := hp.lt) | ((refine wpList_widen (o := ⟨some 32, _, _, _, _, _⟩) rfl _ _ _ rfl _ rfl (by kernel_rfl) (by kernel_rfl) ?_; intro q nq hq); obtain rfl := (FR_wid Hvx.out hq).2; have lq : W x < 18446744073709551616 := hq.lt) | (go_at_call 22; first | (refine (math_Abs _ lq _).mono ?_; rintro e w' ⟨rfl, rfl⟩) | (refine (math_Abs _ lp _).mono ?_; rintro e w' ⟨rfl, rfl⟩)) | (refine wpList_fbin (o := ⟨some 36, _, _, _, _, _⟩) rfl _ _ _ _ _ rfl (by decide) _ _ _ rfl rfl ?_; intro t nt ht; rw [Va.out, Vb.out] at ht) | fail)
  have ht0 : FR .f64 t (angT (angS false (W y % 9223372036854775808) (W x % 9223372036854775808)) 0) := ht
  clear ht
  go_loopw [7, 43] (fun t k wr => ∃ (i tb : Nat), i ≤ 3 ∧ t = .float .f64 tb ∧ k = .int .i64 (i : Int) ∧ FR .f64 tb (angT (angS false (W y % 9223372036854775808) (W x % 9223372036854775808)) i) ∧ ∃ n, wr = w.drewN n) (fun _ k _ => 3 - (intOf k).toNat)
  case atStart => exact ⟨0, _, Nat.zero_le _, rfl, rfl, ht0, _, rfl⟩
  case round =>
    obtain ⟨i, t, hi, rfl, rfl, ht, nw, rfl⟩ := hrel
    by_cases hlt : i < 3
    · have b1 : (i : Int) < 3 := by omega
      go_wp2_with (first | (refine wpList_fbin (o := ⟨some 48, _, _, _, _, _⟩) rfl _ _ _ _ _ rfl (by decide) _ _ _ rfl rfl ?_; intro m1 nm1 hm1; rw [ht.val] at hm1) | (refine wpList_fbin (o := ⟨some 49, _, _, _, _, _⟩) rfl _ _ _ _ _ rfl (by decide) _ _ _ rfl rfl ?_; intro p1 np1 hp1; rw [vONE, hm1.val] at hp1) | (go_at_call 23; refine (math_Sqrt _ _).mono ?_; rintro e w' ⟨q1, rfl, hq1, nq1, rfl⟩; rw [hp1.val] at hq1) | (refine wpList_fbin (o := ⟨some 51, _, _, _, _, _⟩) rfl _ _ _ _ _ rfl (by decide) _ _ _ rfl rfl ?_; intro d1 nd1 hd1; rw [vONE, hq1.val] at hd1) | (refine wpList_fbin (o := ⟨some 52, _, _, _, _, _⟩) rfl _ _ _ _ _ rfl (by decide) _ _ _ rfl rfl ?_; intro r1 nr1 hr1; rw [ht.val, hd1.val] at hr1) | fail)
      go_roundw
      case rel => exact ⟨i + 1, _, hlt, rfl, by simp, hr1, _, rfl⟩
      case measure => simp [intOf]; omega
    · obtain rfl : i = 3 := by omega
      clear hi hlt
      go_wp2_with (first | (refine wpList_fbin (o := ⟨some 56, _, _, _, _, _⟩) rfl _ _ _ _ _ rfl (by decide) _ _ _ rfl rfl ?_; intro u nu hu; rw [ht.val] at hu) | fail)
      go_loopw [9, 10] (fun p k wr => ∃ i : Nat, i ≤ 8 ∧ ∃ pb : Nat, p = .float .f64 pb ∧ k = .float .f64 (logK (i + 5)) ∧ FR .f64 pb (angQ (bin .mul .f64 (angT (angS false (W y % 9223372036854775808) (W x % 9223372036854775808)) 3) (angT (angS false (W y % 9223372036854775808) (W x % 9223372036854775808)) 3)) i) ∧ ∃ n, wr = w.drewN n) (fun _ k _ => match k with | .float _ b => if b < 9223372036854775808 then b else 0 | _ => 0)
      case atStart => exact ⟨0, by omega, _, rfl, by rw [logK5], ⟨by decide, vZERO⟩, _, rfl⟩
      case round =>
        obtain ⟨i, hi, pb, rfl, rfl, hpp, nw, rfl⟩ := hrel
        by_cases hlt : i < 8
        · have hvk : Hid (val .f64 (logK (i + 5)) = some (logK (i + 5))) := (ang_consts i hlt).1
          have hks : Hid (bin .sub .f64 (some (logK (i + 5))) (some TWO) = some (logK (i + 1 + 5))) := (ang_consts i hlt).2.1
          have ht' : (FloatKind.f64.format.order (logK (i + 5)) 4607182418800017408 == some .gt || FloatKind.f64.format.order (logK (i + 5)) 4607182418800017408 == some .eq) = true := (ang_consts i hlt).2.2.2
          have hlt' : i + 1 ≤ 8 := hlt
          have hml := logK_lt (i + 5) (by omega)
          clear hi hlt
          go_wp2_with (first | (refine wpList_fbin (o := ⟨some 62, _, _, _, _, _⟩) rfl _ _ _ _ _ rfl (by decide) _ _ _ rfl rfl ?_; intro c1 nc1 hc1; rw [vONE, hvk.out] at hc1) | (refine wpList_fbin (o := ⟨some 65, _, _, _, _, _⟩) rfl _ _ _ _ _ rfl (by decide) _ _ _ rfl rfl ?_; intro c2 nc2 hc2; rw [hu.val, hpp.val] at hc2) | (refine wpList_fbin (o := ⟨some 66, _, _, _, _, _⟩) rfl _ _ _ _ _ rfl (by decide) _ _ _ rfl rfl ?_; intro c3 nc3 hc3; rw [hc1.val, hc2.val] at hc3) | (refine wpList_fbin (o := ⟨some 60, _, _, _, _, _⟩) rfl _ _ _ _ _ rfl (by decide) _ _ _ rfl rfl ?_; intro kk nkk hkk; rw [hvk.out, vTWO, hks.out] at hkk) | fail)
          go_roundw
          case rel => exact ⟨i + 1, hlt', _, rfl, by rw [← val_some hkk.val], hc3, _, rfl⟩
          case measure => rw [show i + 5 + 1 = i + 1 + 5 by omega, val_some hkk.val] at hml; exact hml
        · obtain rfl : i = 8 := by omega
          have ht' : (FloatKind.f64.format.order (logK (8 + 5)) 4607182418800017408 == some .gt || FloatKind.f64.format.order (logK (8 + 5)) 4607182418800017408 == some .eq) = false := log_end
          clear hi hlt
          go_wp2_with (first | (refine wpList_fbin (o := ⟨some 69, _, _, _, _, _⟩) rfl _ _ _ _ _ rfl (by decide) _ _ _ rfl rfl ?_; intro e1 ne1 he1; rw [ht.val, hpp.val] at he1) | (refine wpList_fbin (o := ⟨some 70, _, _, _, _, _⟩) rfl _ _ _ _ _ rfl (by decide) _ _ _ rfl rfl ?_; intro e2 ne2 he2; rw [vEIGHT, he1.val] at he2) | (refine wpList_fbin (o := ⟨some 71, _, _, _, _, _⟩) rfl _ _ _ _ _ rfl (by decide) _ _ _ rfl rfl ?_; intro e3 ne3 he3; rw [he2.val, vTURN] at he3) | (refine wpList_narrow (o := ⟨some 86, _, _, _, _, _⟩) rfl _ _ _ rfl _ rfl (by kernel_rfl) (by kernel_rfl) (by rw [he3.val]; exact HOK.out) ?_; intro r nr hr) | fail)
          go_ret
          refine ⟨r, rfl, ?_, _, rfl⟩
          rw [he3.val] at hr
          exact hr

theorem impl_Angle_1011 (y x : Nat) (hfx : isFin (val .f32 x) = true) (hfy : isFin (val .f32 y) = true) (hvx : val .f32 x = some x) (hvy : val .f32 y = some y)
    (t0 : (FloatKind.f32.format.order x 0 == some .eq) = true) (t0y : (FloatKind.f32.format.order y 0 == some .eq) = false) (t1 : (FloatKind.f64.format.order (W y % 9223372036854775808) (W x % 9223372036854775808) == some .gt) = true) (t2 : (FloatKind.f32.format.order x 0 == some .lt) = false) (t3 : (FloatKind.f32.format.order y 0 == some .lt) = true)
    (va : val .f64 (W y % 9223372036854775808) = some (W y % 9223372036854775808)) (vb : val .f64 (W x % 9223372036854775808) = some (W x % 9223372036854775808)) (hok : NarOk (angV true false true (W y % 9223372036854775808) (W x % 9223372036854775808))) (w : World) :
    Calls Try.prog 14 #[.float .f32 y, .float .f32 x] w fun e w' => ∃ r, e = .returned (.float .f32 r) ∧ FR .f32 r (nar (angV true false true (W y % 9223372036854775808) (W x % 9223372036854775808))) ∧ ∃ n, w' = w.drewN n := by
  have Hvx : Hid (val .f32 x = some x) := hvx
  have Hvy : Hid (val .f32 y = some y) := hvy
  have Va : Hid (val .f64 (W y % 9223372036854775808) = some (W y % 9223372036854775808)) := va
  have Vb : Hid (val .f64 (W x % 9223372036854775808) = some (W x % 9223372036854775808)) := vb
  have HOK : Hid (NarOk (angV true false true (W y % 9223372036854775808) (W x % 9223372036854775808))) := hok
  clear hvx hvy va vb hok
  go_enter Try.func14, Try.ntmps14
  go_wp2_with (first | (go_at_call 20; refine (impl_IsFinite _ _).mono ?_; rintro e w' ⟨rfl, nf, rfl⟩) | ((refine wpList_widen (o := ⟨some 29, _, _, _, _, _⟩) rfl _ _ _ rfl _ rfl (by kernel_rfl) (by kernel_rfl) ?_; intro p np hp); obtain rfl := (FR_wid Hvy.out hp).2; have lp : W y < 18446744073709551616 := hp.lt) | ((refine wpList_widen (o := ⟨some 32, _, _, _, _, _⟩) rfl _ _ _ rfl _ rfl (by kernel_rfl) (by kernel_rfl) ?_; intro q nq hq); obtain rfl := (FR_wid Hvx.out hq).2; have lq : W x < 18446744073709551616 := hq.lt) | (go_at_call 22; first | (refine (math_Abs _ lq _).mono ?_; rintro e w' ⟨rfl, rfl⟩) | (refine (math_Abs _ lp _).mono ?_; rintro e w' ⟨rfl, rfl⟩)) | (refine wpList_fbin (o := ⟨some 36, _, _, _, _, _⟩) rfl _ _ _ _ _ rfl (by decide) _ _ _ rfl rfl ?_; intro s0 ns0 hs0) | (refine wpList_fbin (o := ⟨some 42, _, _, _, _, _⟩) rfl _ _ _ _ _ rfl (by decide) _ _ _ rfl rfl ?_; intro t nt ht; rw [Vb.out, Va.out] at ht) | fail)
  have ht0 : FR .f64 t (angT (angS true (W y % 9223372036854775808) (W x % 9223372036854775808)) 0) := ht
  clear ht
  go_loopw [7, 43] (fun t k wr => ∃ (i tb : Nat), i ≤ 3 ∧ t = .float .f64 tb ∧ k = .int .i64 (i : Int) ∧ FR .f64 tb (angT (angS true (W y % 9223372036854775808) (W x % 9223372036854775808)) i) ∧ ∃ n, wr = w.drewN n) (fun _ k _ => 3 - (intOf k).toNat)
  case atStart => exact ⟨0, _, Nat.zero_le _, rfl, rfl, ht0, _, rfl⟩
  case round =>
    obtain ⟨i, t, hi, rfl, rfl, ht, nw, rfl⟩ := hrel
    by_cases hlt : i < 3
    · have b1 : (i : Int) < 3 := by omega
      go_wp2_with (first | (refine wpList_fbin (o := ⟨some 48, _, _, _, _, _⟩) rfl _ _ _ _ _ rfl (by decide) _ _ _ rfl rfl ?_; intro m1 nm1 hm1; rw [ht.val] at hm1) | (refine wpList_fbin (o := ⟨some 49, _, _, _, _, _⟩) rfl _ _ _ _ _ rfl (by decide) _ _ _ rfl rfl ?_; intro p1 np1 hp1; rw [vONE, hm1.val] at hp1) | (go_at_call 23; refine (math_Sqrt _ _).mono ?_; rintro e w' ⟨q1, rfl, hq1, nq1, rfl⟩; rw [hp1.val] at hq1) | (refine wpList_fbin (o := ⟨some 51, _, _, _, _, _⟩) rfl _ _ _ _ _ rfl (by decide) _ _ _ rfl rfl ?_; intro d1 nd1 hd1; rw [vONE, hq1.val] at hd1) | (refine wpList_fbin (o := ⟨some 52, _, _, _, _, _⟩) rfl _ _ _ _ _ rfl (by decide) _ _ _ rfl rfl ?_; intro r1 nr1 hr1; rw [ht.val, hd1.val] at hr1) | fail)
      go_roundw
      case rel => exact ⟨i + 1, _, hlt, rfl, by simp, hr1, _, rfl⟩
      case measure => simp [intOf]; omega
    · obtain rfl : i = 3 := by omega
      clear hi hlt
      go_wp2_with (first | (refine wpList_fbin (o := ⟨some 56, _, _, _, _, _⟩) rfl _ _ _ _ _ rfl (by decide) _ _ _ rfl rfl ?_; intro u nu hu; rw [ht.val] at hu) | fail)
      go_loopw [9, 10] (fun p k wr => ∃ i : Nat, i ≤ 8 ∧ ∃ pb : Nat, p = .float .f64 pb ∧ k = .float .f64 (logK (i + 5)) ∧ FR .f64 pb (angQ (bin .mul .f64 (angT (angS true (W y % 9223372036854775808) (W x % 9223372036854775808)) 3) (angT (angS true (W y % 9223372036854775808) (W x % 9223372036854775808)) 3)) i) ∧ ∃ n, wr = w.drewN n) (fun _ k _ => match k with | .float _ b => if b < 9223372036854775808 then b else 0 | _ => 0)
      case atStart => exact ⟨0, by omega, _, rfl, by rw [logK5], ⟨by decide, vZERO⟩, _, rfl⟩
      case round =>
        obtain ⟨i, hi, pb, rfl, rfl, hpp, nw, rfl⟩ := hrel
        by_cases hlt : i < 8
        · have hvk : Hid (val .f64 (logK (i + 5)) = some (logK (i + 5))) := (ang_consts i hlt).1
          have hks : Hid (bin .sub .f64 (some (logK (i + 5))) (some TWO) = some (logK (i + 1 + 5))) := (ang_consts i hlt).2.1
          have ht' : (FloatKind.f64.format.order (logK (i + 5)) 4607182418800017408 == some .gt || FloatKind.f64.format.order (logK (i + 5)) 4607182418800017408 == some .eq) = true := (ang_consts i hlt).2.2.2
          have hlt' : i + 1 ≤ 8 := hlt
          have hml := logK_lt (i + 5) (by omega)
          clear hi hlt
          go_wp2_with (first | (refine wpList_fbin (o := ⟨some 62, _, _, _, _, _⟩) rfl _ _ _ _ _ rfl (by decide) _ _ _ rfl rfl ?_; intro c1 nc1 hc1; rw [vONE, hvk.out] at hc1) | (refine wpList_fbin (o := ⟨some 65, _, _, _, _, _⟩) rfl _ _ _ _ _ rfl (by decide) _ _ _ rfl rfl ?_; intro c2 nc2 hc2; rw [hu.val, hpp.val] at hc2) | (refine wpList_fbin (o := ⟨some 66, _, _, _, _, _⟩) rfl _ _ _ _ _ rfl (by decide) _ _ _ rfl rfl ?_; intro c3 nc3 hc3; rw [hc1.val, hc2.val] at hc3) | (refine wpList_fbin (o := ⟨some 60, _, _, _, _, _⟩) rfl _ _ _ _ _ rfl (by decide) _ _ _ rfl rfl ?_; intro kk nkk hkk; rw [hvk.out, vTWO, hks.out] at hkk) | fail)
          go_roundw
          case rel => exact ⟨i + 1, hlt', _, rfl, by rw [← val_some hkk.val], hc3, _, rfl⟩
          case measure => rw [show i + 5 + 1 = i + 1 + 5 by omega, val_some hkk.val] at hml; exact hml
        · obtain rfl : i = 8 := by omega
          have ht' : (FloatKind.f64.format.order (logK (8 + 5)) 4607182418800017408 == some .gt || FloatKind.f64.format.order (logK (8 + 5)) 4607182418800017408 == some .eq) = false := log_end
          clear hi hlt
          go_wp2_with (first | (refine wpList_fbin (o := ⟨some 69, _, _, _, _, _⟩) rfl _ _ _ _ _ rfl (by decide) _ _ _ rfl rfl ?_; intro e1 ne1 he1; rw [ht.val, hpp.val] at he1) | (refine wpList_fbin (o := ⟨some 70, _, _, _, _, _⟩) rfl _ _ _ _ _ rfl (by decide) _ _ _ rfl rfl ?_; intro e2 ne2 he2; rw [vEIGHT, he1.val] at he2) | (refine wpList_fbin (o := ⟨some 71, _, _, _, _, _⟩) rfl _ _ _ _ _ rfl (by decide) _ _ _ rfl rfl ?_; intro e3 ne3 he3; rw [he2.val, vTURN] at he3) | (refine wpList_fbin (o := ⟨some 76, _, _, _, _, _⟩) rfl _ _ _ _ _ rfl (by decide) _ _ _ rfl rfl ?_; intro e4 ne4 he4; rw [vQUARTER, he3.val] at he4) | (refine wpList_narrow (o := ⟨some 86, _, _, _, _, _⟩) rfl _ _ _ rfl _ rfl (by kernel_rfl) (by kernel_rfl) (by rw [(FR_neg64 he4).val]; exact HOK.out) ?_; intro r nr hr) | fail)
          go_ret
          refine ⟨r, rfl, ?_, _, rfl⟩
          rw [(FR_neg64 he4).val] at hr
          exact hr

theorem impl_Angle_1001 (y x : Nat) (hfx : isFin (val .f32 x) = true) (hfy : isFin (val .f32 y) = true) (hvx : val .f32 x = some x) (hvy : val .f32 y = some y)
    (t0 : (FloatKind.f32.format.order x 0 == some .eq) = true) (t0y : (FloatKind.f32.format.order y 0 == some .eq) = false) (t1 : (FloatKind.f64.format.order (W y % 9223372036854775808) (W x % 9223372036854775808) == some .gt) = true) (t2 : (FloatKind.f32.format.order x 0 == some .lt) = false) (t3 : (FloatKind.f32.format.order y 0 == some .lt) = false)
    (va : val .f64 (W y % 9223372036854775808) = some (W y % 9223372036854775808)) (vb : val .f64 (W x % 9223372036854775808) = some (W x % 9223372036854775808)) (hok : NarOk (angV true false false (W y % 9223372036854775808) (W x % 9223372036854775808))) (w : World) :
    Calls Try.prog 14 #[.float .f32 y, .float .f32 x] w fun e w' => ∃ r, e = .returned (.float .f32 r) ∧ FR .f32 r (nar (angV true false false (W y % 9223372036854775808) (W x % 9223372036854775808))) ∧ ∃ n, w' = w.drewN n := by
  have Hvx : Hid (val .f32 x = some x) := hvx
  have Hvy : Hid (val .f32 y = some y) := hvy
  have Va : Hid (val .f64 (W y % 9223372036854775808) = some (W y % 9223372036854775808)) := va
  have Vb : Hid (val .f64 (W x % 9223372036854775808) = some (W x % 9223372036854775808)) := vb
  have HOK : Hid (NarOk (angV true false false (W y % 9223372036854775808) (W x % 9223372036854775808))) := hok
  clear hvx hvy va vb hok
  go_enter Try.func14, Try.ntmps14
  go_wp2_with (first | (go_at_call 20; refine (impl_IsFinite _ _).mono ?_; rintro e w' ⟨rfl, nf, rfl⟩) | ((refine wpList_widen (o := ⟨some 29, _, _, _, _, _⟩) rfl _ _ _ rfl _ rfl (by kernel_rfl) (by kernel_rfl) ?_; intro p np hp); obtain rfl := (FR_wid Hvy.out hp).2; have lp : W y < 18446744073709551616 := hp.lt) | ((refine wpList_widen (o := ⟨some 32, _, _, _, _, _⟩) rfl _ _ _ rfl _ rfl (by kernel_rfl) (by kernel_rfl) ?_; intro q nq hq); obtain rfl := (FR_wid Hvx.out hq).2; have lq : W x < 18446744073709551616 := hq.lt) | (go_at_call 22; first | (refine (math_Abs _ lq _).mono ?_; rintro e w' ⟨rfl, rfl⟩) | (refine (math_Abs _ lp _).mono ?_; rintro e w' ⟨rfl, rfl⟩)) | (refine wpList_fbin (o := ⟨some 36, _, _, _, _, _⟩) rfl _ _ _ _ _ rfl (by decide) _ _ _ rfl rfl ?_; intro s0 ns0 hs0) | (refine wpList_fbin (o := ⟨some 42, _, _, _, _, _⟩) rfl _ _ _ _ _ rfl (by decide) _ _ _ rfl rfl ?_; intro t nt ht; rw [Vb.out, Va.out] at ht) | fail)
  have ht0 : FR .f64 t (angT (angS true (W y % 9223372036854775808) (W x % 9223372036854775808)) 0) := ht
  clear ht
  go_loopw [7, 43] (fun t k wr => ∃ (i tb : Nat), i ≤ 3 ∧ t = .float .f64 tb ∧ k = .int .i64 (i : Int) ∧ FR .f64 tb (angT (angS true (W y % 9223372036854775808) (W x % 9223372036854775808)) i) ∧ ∃ n, wr = w.drewN n) (fun _ k _ => 3 - (intOf k).toNat)
  case atStart => exact ⟨0, _, Nat.zero_le _, rfl, rfl, ht0, _, rfl⟩
  case round =>
    obtain ⟨i, t, hi, rfl, rfl, ht, nw, rfl⟩ := hrel
    by_cases hlt : i < 3
    · have b1 : (i : Int) < 3 := by omega
      go_wp2_with (first | (refine wpList_fbin (o := ⟨some 48, _, _, _, _, _⟩) rfl _ _ _ _ _ rfl (by decide) _ _ _ rfl rfl ?_; intro m1 nm1 hm1; rw [ht.val] at hm1) | (refine wpList_fbin (o := ⟨some 49, _, _, _, _, _⟩) rfl _ _ _ _ _ rfl (by decide) _ _ _ rfl rfl ?_; intro p1 np1 hp1; rw [vONE, hm1.val] at hp1) | (go_at_call 23; refine (math_Sqrt _ _).mono ?_; rintro e w' ⟨q1, rfl, hq1, nq1, rfl⟩; rw [hp1.val] at hq1) | (refine wpList_fbin (o := ⟨some 51, _, _, _, _, _⟩) rfl _ _ _ _ _ rfl (by decide) _ _ _ rfl rfl ?_; intro d1 nd1 hd1; rw [vONE, hq1.val] at hd1) | (refine wpList_fbin (o := ⟨some 52, _, _, _, _, _⟩) rfl _ _ _ _ _ rfl (by decide) _ _ _ rfl rfl ?_; intro r1 nr1 hr1; rw [ht.val, hd1.val] at hr1) | fail)
      go_roundw
      case rel => exact ⟨i + 1, _, hlt, rfl, by simp, hr1, _, rfl⟩
      case measure => simp [intOf]; omega
    · obtain rfl : i = 3 := by omega
      clear hi hlt
      go_wp2_with (first | (refine wpList_fbin (o := ⟨some 56, _, _, _, _, _⟩) rfl _ _ _ _ _ rfl (by decide) _ _ _ rfl rfl ?_; intro u nu hu; rw [ht.val] at hu) | fail)
      go_loopw [9, 10] (fun p k wr => ∃ i : Nat, i ≤ 8 ∧ ∃ pb : Nat, p = .float .f64 pb ∧ k = .float .f64 (logK (i + 5)) ∧ FR .f64 pb (angQ (bin .mul .f64 (angT (angS true (W y % 9223372036854775808) (W x % 9223372036854775808)) 3) (angT (angS true (W y % 9223372036854775808) (W x % 9223372036854775808)) 3)) i) ∧ ∃ n, wr = w.drewN n) (fun _ k _ => match k with | .float _ b => if b < 9223372036854775808 then b else 0 | _ => 0)
      case atStart => exact ⟨0, by omega, _, rfl, by rw [logK5], ⟨by decide, vZERO⟩, _, rfl⟩
      case round =>
        obtain ⟨i, hi, pb, rfl, rfl, hpp, nw, rfl⟩ := hrel
        by_cases hlt : i < 8
        · have hvk : Hid (val .f64 (logK (i + 5)) = some (logK (i + 5))) := (ang_consts i hlt).1
          have hks : Hid (bin .sub .f64 (some (logK (i + 5))) (some TWO) = some (logK (i + 1 + 5))) := (ang_consts i hlt).2.1
          have ht' : (FloatKind.f64.format.order (logK (i + 5)) 4607182418800017408 == some .gt || FloatKind.f64.format.order (logK (i + 5)) 4607182418800017408 == some .eq) = true := (ang_consts i hlt).2.2.2
          have hlt' : i + 1 ≤ 8 := hlt
          have hml := logK_lt (i + 5) (by omega)
          clear hi hlt
          go_wp2_with (first | (refine wpList_fbin (o := ⟨some 62, _, _, _, _, _⟩) rfl _ _ _ _ _ rfl (by decide) _ _ _ rfl rfl ?_; intro c1 nc1 hc1; rw [vONE, hvk.out] at hc1) | (refine wpList_fbin (o := ⟨some 65, _, _, _, _, _⟩) rfl _ _ _ _ _ rfl (by decide) _ _ _ rfl rfl ?_; intro c2 nc2 hc2; rw [hu.val, hpp.val] at hc2) | (refine wpList_fbin (o := ⟨some 66, _, _, _, _, _⟩) rfl _ _ _ _ _ rfl (by decide) _ _ _ rfl rfl ?_; intro c3 nc3 hc3; rw [hc1.val, hc2.val] at hc3) | (refine wpList_fbin (o := ⟨some 60, _, _, _, _, _⟩) rfl _ _ _ _ _ rfl (by decide) _ _ _ rfl rfl ?_; intro kk nkk hkk; rw [hvk.out, vTWO, hks.out] at hkk) | fail)
          go_roundw
          case rel => exact ⟨i + 1, hlt', _, rfl, by rw [← val_some hkk.val], hc3, _, rfl⟩
          case measure => rw [show i + 5 + 1 = i + 1 + 5 by omega, val_some hkk.val] at hml; exact hml
        · obtain rfl : i = 8 := by omega
          have ht' : (FloatKind.f64.format.order (logK (8 + 5)) 4607182418800017408 == some .gt || FloatKind.f64.format.order (logK (8 + 5)) 4607182418800017408 == some .eq) = false := log_end
          clear hi hlt
          go_wp2_with (first | (refine wpList_fbin (o := ⟨some 69, _, _, _, _, _⟩) rfl _ _ _ _ _ rfl (by decide) _ _ _ rfl rfl ?_; intro e1 ne1 he1; rw [ht.val, hpp.val] at he1) | (refine wpList_fbin (o := ⟨some 70, _, _, _, _, _⟩) rfl _ _ _ _ _ rfl (by decide) _ _ _ rfl rfl ?_; intro e2 ne2 he2; rw [vEIGHT, he1.val] at he2) | (refine wpList_fbin (o := ⟨some 71, _, _, _, _, _⟩) rfl _ _ _ _ _ rfl (by decide) _ _ _ rfl rfl ?_; intro e3 ne3 he3; rw [he2.val, vTURN] at he3) | (refine wpList_fbin (o := ⟨some 76, _, _, _, _, _⟩) rfl _ _ _ _ _ rfl (by decide) _ _ _ rfl rfl ?_; intro e4 ne4 he4; rw [vQUARTER, he3.val] at he4) | (refine wpList_narrow (o := ⟨some 86, _, _, _, _, _⟩) rfl _ _ _ rfl _ rfl (by kernel_rfl) (by kernel_rfl) (by rw [he4.val]; exact HOK.out) ?_; intro r nr hr) | fail)
          go_ret
          refine ⟨r, rfl, ?_, _, rfl⟩
          rw [he4.val] at hr
          exact hr

end Go.Proofs.Ytilaempppmhohaa
