/-
  Contracts: AngleTurns, the reference's side. (Printed by gen/gen_angle.py)
-/
import Derived.Test.YtilaempppmhohaaB7
import Derived.Test.YtilaempppmhohaaAngle
namespace Go.Proofs.Ytilaempppmhohaa
open Fl Ieee Go.RowKit
set_option linter.unusedVariables false

theorem spec_Angle_1110 (Y X : Nat) (lY : Y < 18446744073709551616) (lX : X < 18446744073709551616) (hfy : cmp .f64 (bin .sub .f64 (val .f64 Y) (val .f64 Y)) (some 0) = some .eq) (hfx : cmp .f64 (bin .sub .f64 (val .f64 X) (val .f64 X)) (some 0) = some .eq)
    (t0 : (FloatKind.f64.format.order X 0 == some .eq) = false) (t1 : (FloatKind.f64.format.order (Y % 9223372036854775808) (X % 9223372036854775808) == some .gt) = true) (t2 : (FloatKind.f64.format.order X 0 == some .lt) = true) (t3 : (FloatKind.f64.format.order Y 0 == some .lt) = true)
    (va : val .f64 (Y % 9223372036854775808) = some (Y % 9223372036854775808)) (vb : val .f64 (X % 9223372036854775808) = some (X % 9223372036854775808)) (w : World) :
    Calls Try.prog 25 #[.float .f64 Y, .float .f64 X] w fun e w' => ∃ r, e = .returned (.float .f64 r) ∧ FR .f64 r (angV true true true (Y % 9223372036854775808) (X % 9223372036854775808)) ∧ ∃ n, w' = w.drewN n := by
  have HFY : Hid (cmp .f64 (bin .sub .f64 (val .f64 Y) (val .f64 Y)) (some 0) = some .eq) := hfy
  have HFX : Hid (cmp .f64 (bin .sub .f64 (val .f64 X) (val .f64 X)) (some 0) = some .eq) := hfx
  have Va : Hid (val .f64 (Y % 9223372036854775808) = some (Y % 9223372036854775808)) := va
  have Vb : Hid (val .f64 (X % 9223372036854775808) = some (X % 9223372036854775808)) := vb
  clear hfx hfy va vb
  go_enter Try.func25, Try.ntmps25
  go_wp2_with (first | ((refine wpList_fbin (o := ⟨some 16, _, _, _, _, _⟩) rfl _ _ _ _ _ rfl (by decide) _ _ _ rfl rfl ?_; intro a1 na1 ha1); have ta1 : (FloatKind.f64.format.order a1 0 != some .eq) = false := (by rw [order_cmp, ha1.val, vZERO, HFY.out]; rfl)) | ((refine wpList_fbin (o := ⟨some 21, _, _, _, _, _⟩) rfl _ _ _ _ _ rfl (by decide) _ _ _ rfl rfl ?_; intro a2 na2 ha2); have ta2 : (FloatKind.f64.format.order a2 0 != some .eq) = false := (by rw [order_cmp, ha2.val, vZERO, HFX.out]; rfl)) | (go_at_call 22; first | (refine (math_Abs _ lY _).mono ?_; rintro e w' ⟨rfl, rfl⟩) | (refine (math_Abs _ lX _).mono ?_; rintro e w' ⟨rfl, rfl⟩)) | (refine wpList_fbin (o := ⟨some 41, _, _, _, _, _⟩) rfl _ _ _ _ _ rfl (by decide) _ _ _ rfl rfl ?_; intro t nt ht; rw [Vb.out, Va.out] at ht) | fail)
  have ht0 : FR .f64 t (angT (angS true (Y % 9223372036854775808) (X % 9223372036854775808)) 0) := ht
  clear ht
  go_loopw [8, 9] (fun t k wr => ∃ (i tb : Nat), i ≤ 3 ∧ t = .float .f64 tb ∧ k = .int .i64 (i : Int) ∧ FR .f64 tb (angT (angS true (Y % 9223372036854775808) (X % 9223372036854775808)) i) ∧ ∃ n, wr = w.drewN n) (fun _ k _ => 3 - (intOf k).toNat)
  case atStart => exact ⟨0, _, Nat.zero_le _, rfl, rfl, ht0, _, rfl⟩
  case round =>
    obtain ⟨i, t, hi, rfl, rfl, ht, nw, rfl⟩ := hrel
    by_cases hlt : i < 3
    · have b1 : (i : Int) < 3 := by omega
      go_wp2_with (first | (refine wpList_fbin (o := ⟨some 52, _, _, _, _, _⟩) rfl _ _ _ _ _ rfl (by decide) _ _ _ rfl rfl ?_; intro m1 nm1 hm1; rw [ht.val] at hm1) | (refine wpList_fbin (o := ⟨some 53, _, _, _, _, _⟩) rfl _ _ _ _ _ rfl (by decide) _ _ _ rfl rfl ?_; intro p1 np1 hp1; rw [vONE, hm1.val] at hp1) | (go_at_call 23; refine (math_Sqrt _ _).mono ?_; rintro e w' ⟨q1, rfl, hq1, nq1, rfl⟩; rw [hp1.val] at hq1) | (refine wpList_fbin (o := ⟨some 55, _, _, _, _, _⟩) rfl _ _ _ _ _ rfl (by decide) _ _ _ rfl rfl ?_; intro d1 nd1 hd1; rw [vONE, hq1.val] at hd1) | (refine wpList_fbin (o := ⟨some 56, _, _, _, _, _⟩) rfl _ _ _ _ _ rfl (by decide) _ _ _ rfl rfl ?_; intro r1 nr1 hr1; rw [ht.val, hd1.val] at hr1) | fail)
      go_roundw
      case rel => exact ⟨i + 1, _, hlt, rfl, by simp, hr1, _, rfl⟩
      case measure => simp [intOf]; omega
    · obtain rfl : i = 3 := by omega
      clear hi hlt
      go_wp2_with (first | (refine wpList_fbin (o := ⟨some 59, _, _, _, _, _⟩) rfl _ _ _ _ _ rfl (by decide) _ _ _ rfl rfl ?_; intro u nu hu; rw [ht.val] at hu) | fail)
      go_loopw [11, 12] (fun p k wr => ∃ i : Nat, i ≤ 8 ∧ ∃ pb : Nat, p = .float .f64 pb ∧ k = .int .i64 (15 - 2 * (i : Int)) ∧ FR .f64 pb (angQ (bin .mul .f64 (angT (angS true (Y % 9223372036854775808) (X % 9223372036854775808)) 3) (angT (angS true (Y % 9223372036854775808) (X % 9223372036854775808)) 3)) i) ∧ ∃ n, wr = w.drewN n) (fun _ k _ => (intOf k + 1).toNat)
      case atStart => exact ⟨0, by omega, _, rfl, rfl, ⟨by decide, vZERO⟩, _, rfl⟩
      case round =>
        obtain ⟨i, hi, pb, rfl, rfl, hpp, nw, rfl⟩ := hrel
        by_cases hlt : i < 8
        · have hvk : Hid (floatOfInt .f64 (15 - 2 * (i : Int)) = logK (i + 5)) := (ang_consts i hlt).2.2.1
          have hb1 : (1 : Int) ≤ 15 - 2 * (i : Int) := by omega
          have hb8 : (15 : Int) - 2 * (i : Int) ≤ 15 := by omega
          have hlt' : i + 1 ≤ 8 := hlt
          clear hi hlt
          go_wp2_with (first | (refine wpList_fbin (o := ⟨some 66, _, _, _, _, _⟩) rfl _ _ _ _ _ rfl (by decide) _ _ _ rfl rfl ?_; intro c1 nc1 hc1; rw [vONE, val_ofInt, hvk.out] at hc1) | (refine wpList_fbin (o := ⟨some 69, _, _, _, _, _⟩) rfl _ _ _ _ _ rfl (by decide) _ _ _ rfl rfl ?_; intro c2 nc2 hc2; rw [hu.val, hpp.val] at hc2) | (refine wpList_fbin (o := ⟨some 70, _, _, _, _, _⟩) rfl _ _ _ _ _ rfl (by decide) _ _ _ rfl rfl ?_; intro c3 nc3 hc3; rw [hc1.val, hc2.val] at hc3) | fail)
          go_roundw
          case rel => exact ⟨i + 1, hlt', _, rfl, by congr 1; omega, hc3, _, rfl⟩
          case measure => simp [intOf]; omega
        · obtain rfl : i = 8 := by omega
          clear hi hlt
          go_wp2_with (first | (refine wpList_fbin (o := ⟨some 73, _, _, _, _, _⟩) rfl _ _ _ _ _ rfl (by decide) _ _ _ rfl rfl ?_; intro e1 ne1 he1; rw [ht.val, hpp.val] at he1) | (refine wpList_fbin (o := ⟨some 74, _, _, _, _, _⟩) rfl _ _ _ _ _ rfl (by decide) _ _ _ rfl rfl ?_; intro e2 ne2 he2; rw [vEIGHT, he1.val] at he2) | (refine wpList_fbin (o := ⟨some 75, _, _, _, _, _⟩) rfl _ _ _ _ _ rfl (by decide) _ _ _ rfl rfl ?_; intro e3 ne3 he3; rw [he2.val, vTURN] at he3) | (refine wpList_fbin (o := ⟨some 78, _, _, _, _, _⟩) rfl _ _ _ _ _ rfl (by decide) _ _ _ rfl rfl ?_; intro e4 ne4 he4; rw [vQUARTER, he3.val] at he4) | (refine wpList_fbin (o := ⟨some 82, _, _, _, _, _⟩) rfl _ _ _ _ _ rfl (by decide) _ _ _ rfl rfl ?_; intro e5 ne5 he5; rw [vHALF, he4.val] at he5) | fail)
          go_ret
          exact ⟨_, rfl, FR_neg64 he5, _, rfl⟩

theorem spec_Angle_1100 (Y X : Nat) (lY : Y < 18446744073709551616) (lX : X < 18446744073709551616) (hfy : cmp .f64 (bin .sub .f64 (val .f64 Y) (val .f64 Y)) (some 0) = some .eq) (hfx : cmp .f64 (bin .sub .f64 (val .f64 X) (val .f64 X)) (some 0) = some .eq)
    (t0 : (FloatKind.f64.format.order X 0 == some .eq) = false) (t1 : (FloatKind.f64.format.order (Y % 9223372036854775808) (X % 9223372036854775808) == some .gt) = true) (t2 : (FloatKind.f64.format.order X 0 == some .lt) = true) (t3 : (FloatKind.f64.format.order Y 0 == some .lt) = false)
    (va : val .f64 (Y % 9223372036854775808) = some (Y % 9223372036854775808)) (vb : val .f64 (X % 9223372036854775808) = some (X % 9223372036854775808)) (w : World) :
    Calls Try.prog 25 #[.float .f64 Y, .float .f64 X] w fun e w' => ∃ r, e = .returned (.float .f64 r) ∧ FR .f64 r (angV true true false (Y % 9223372036854775808) (X % 9223372036854775808)) ∧ ∃ n, w' = w.drewN n := by
  have HFY : Hid (cmp .f64 (bin .sub .f64 (val .f64 Y) (val .f64 Y)) (some 0) = some .eq) := hfy
  have HFX : Hid (cmp .f64 (bin .sub .f64 (val .f64 X) (val .f64 X)) (some 0) = some .eq) := hfx
  have Va : Hid (val .f64 (Y % 9223372036854775808) = some (Y % 9223372036854775808)) := va
  have Vb : Hid (val .f64 (X % 9223372036854775808) = some (X % 9223372036854775808)) := vb
  clear hfx hfy va vb
  go_enter Try.func25, Try.ntmps25
  go_wp2_with (first | ((refine wpList_fbin (o := ⟨some 16, _, _, _, _, _⟩) rfl _ _ _ _ _ rfl (by decide) _ _ _ rfl rfl ?_; intro a1 na1 ha1); have ta1 : (FloatKind.f64.format.order a1 0 != some .eq) = false := (by rw [order_cmp, ha1.val, vZERO, HFY.out]; rfl)) | ((refine wpList_fbin (o := ⟨some 21, _, _, _, _, _⟩) rfl _ _ _ _ _ rfl (by decide) _ _ _ rfl rfl ?_; intro a2 na2 ha2); have ta2 : (FloatKind.f64.format.order a2 0 != some .eq) = false := (by rw [order_cmp, ha2.val, vZERO, HFX.out]; rfl)) | (go_at_call 22; first | (refine (math_Abs _ lY _).mono ?_; rintro e w' ⟨rfl, rfl⟩) | (refine (math_Abs _ lX _).mono ?_; rintro e w' ⟨rfl, rfl⟩)) | (refine wpList_fbin (o := ⟨some 41, _, _, _, _, _⟩) rfl _ _ _ _ _ rfl (by decide) _ _ _ rfl rfl ?_; intro t nt ht; rw [Vb.out, Va.out] at ht) | fail)
  have ht0 : FR .f64 t (angT (angS true (Y % 9223372036854775808) (X % 9223372036854775808)) 0) := ht
  clear ht
  go_loopw [8, 9] (fun t k wr => ∃ (i tb : Nat), i ≤ 3 ∧ t = .float .f64 tb ∧ k = .int .i64 (i : Int) ∧ FR .f64 tb (angT (angS true (Y % 9223372036854775808) (X % 9223372036854775808)) i) ∧ ∃ n, wr = w.drewN n) (fun _ k _ => 3 - (intOf k).toNat)
  case atStart => exact ⟨0, _, Nat.zero_le _, rfl, rfl, ht0, _, rfl⟩
  case round =>
    obtain ⟨i, t, hi, rfl, rfl, ht, nw, rfl⟩ := hrel
    by_cases hlt : i < 3
    · have b1 : (i : Int) < 3 := by omega
      go_wp2_with (first | (refine wpList_fbin (o := ⟨some 52, _, _, _, _, _⟩) rfl _ _ _ _ _ rfl (by decide) _ _ _ rfl rfl ?_; intro m1 nm1 hm1; rw [ht.val] at hm1) | (refine wpList_fbin (o := ⟨some 53, _, _, _, _, _⟩) rfl _ _ _ _ _ rfl (by decide) _ _ _ rfl rfl ?_; intro p1 np1 hp1; rw [vONE, hm1.val] at hp1) | (go_at_call 23; refine (math_Sqrt _ _).mono ?_; rintro e w' ⟨q1, rfl, hq1, nq1, rfl⟩; rw [hp1.val] at hq1) | (refine wpList_fbin (o := ⟨some 55, _, _, _, _, _⟩) rfl _ _ _ _ _ rfl (by decide) _ _ _ rfl rfl ?_; intro d1 nd1 hd1; rw [vONE, hq1.val] at hd1) | (refine wpList_fbin (o := ⟨some 56, _, _, _, _, _⟩) rfl _ _ _ _ _ rfl (by decide) _ _ _ rfl rfl ?_; intro r1 nr1 hr1; rw [ht.val, hd1.val] at hr1) | fail)
      go_roundw
      case rel => exact ⟨i + 1, _, hlt, rfl, by simp, hr1, _, rfl⟩
      case measure => simp [intOf]; omega
    · obtain rfl : i = 3 := by omega
      clear hi hlt
      go_wp2_with (first | (refine wpList_fbin (o := ⟨some 59, _, _, _, _, _⟩) rfl _ _ _ _ _ rfl (by decide) _ _ _ rfl rfl ?_; intro u nu hu; rw [ht.val] at hu) | fail)
      go_loopw [11, 12] (fun p k wr => ∃ i : Nat, i ≤ 8 ∧ ∃ pb : Nat, p = .float .f64 pb ∧ k = .int .i64 (15 - 2 * (i : Int)) ∧ FR .f64 pb (angQ (bin .mul .f64 (angT (angS true (Y % 9223372036854775808) (X % 9223372036854775808)) 3) (angT (angS true (Y % 9223372036854775808) (X % 9223372036854775808)) 3)) i) ∧ ∃ n, wr = w.drewN n) (fun _ k _ => (intOf k + 1).toNat)
      case atStart => exact ⟨0, by omega, _, rfl, rfl, ⟨by decide, vZERO⟩, _, rfl⟩
      case round =>
        obtain ⟨i, hi, pb, rfl, rfl, hpp, nw, rfl⟩ := hrel
        by_cases hlt : i < 8
        · have hvk : Hid (floatOfInt .f64 (15 - 2 * (i : Int)) = logK (i + 5)) := (ang_consts i hlt).2.2.1
          have hb1 : (1 : Int) ≤ 15 - 2 * (i : Int) := by omega
          have hb8 : (15 : Int) - 2 * (i : Int) ≤ 15 := by omega
          have hlt' : i + 1 ≤ 8 := hlt
          clear hi hlt
          go_wp2_with (first | (refine wpList_fbin (o := ⟨some 66, _, _, _, _, _⟩) rfl _ _ _ _ _ rfl (by decide) _ _ _ rfl rfl ?_; intro c1 nc1 hc1; rw [vONE, val_ofInt, hvk.out] at hc1) | (refine wpList_fbin (o := ⟨some 69, _, _, _, _, _⟩) rfl _ _ _ _ _ rfl (by decide) _ _ _ rfl rfl ?_; intro c2 nc2 hc2; rw [hu.val, hpp.val] at hc2) | (refine wpList_fbin (o := ⟨some 70, _, _, _, _, _⟩) rfl _ _ _ _ _ rfl (by decide) _ _ _ rfl rfl ?_; intro c3 nc3 hc3; rw [hc1.val, hc2.val] at hc3) | fail)
          go_roundw
          case rel => exact ⟨i + 1, hlt', _, rfl, by congr 1; omega, hc3, _, rfl⟩
          case measure => simp [intOf]; omega
        · obtain rfl : i = 8 := by omega
          clear hi hlt
          go_wp2_with (first | (refine wpList_fbin (o := ⟨some 73, _, _, _, _, _⟩) rfl _ _ _ _ _ rfl (by decide) _ _ _ rfl rfl ?_; intro e1 ne1 he1; rw [ht.val, hpp.val] at he1) | (refine wpList_fbin (o := ⟨some 74, _, _, _, _, _⟩) rfl _ _ _ _ _ rfl (by decide) _ _ _ rfl rfl ?_; intro e2 ne2 he2; rw [vEIGHT, he1.val] at he2) | (refine wpList_fbin (o := ⟨some 75, _, _, _, _, _⟩) rfl _ _ _ _ _ rfl (by decide) _ _ _ rfl rfl ?_; intro e3 ne3 he3; rw [he2.val, vTURN] at he3) | (refine wpList_fbin (o := ⟨some 78, _, _, _, _, _⟩) rfl _ _ _ _ _ rfl (by decide) _ _ _ rfl rfl ?_; intro e4 ne4 he4; rw [vQUARTER, he3.val] at he4) | (refine wpList_fbin (o := ⟨some 82, _, _, _, _, _⟩) rfl _ _ _ _ _ rfl (by decide) _ _ _ rfl rfl ?_; intro e5 ne5 he5; rw [vHALF, he4.val] at he5) | fail)
          go_ret
          exact ⟨_, rfl, he5, _, rfl⟩

theorem spec_Angle_1010 (Y X : Nat) (lY : Y < 18446744073709551616) (lX : X < 18446744073709551616) (hfy : cmp .f64 (bin .sub .f64 (val .f64 Y) (val .f64 Y)) (some 0) = some .eq) (hfx : cmp .f64 (bin .sub .f64 (val .f64 X) (val .f64 X)) (some 0) = some .eq)
    (t0 : (FloatKind.f64.format.order X 0 == some .eq) = false) (t1 : (FloatKind.f64.format.order (Y % 9223372036854775808) (X % 9223372036854775808) == some .gt) = true) (t2 : (FloatKind.f64.format.order X 0 == some .lt) = false) (t3 : (FloatKind.f64.format.order Y 0 == some .lt) = true)
    (va : val .f64 (Y % 9223372036854775808) = some (Y % 9223372036854775808)) (vb : val .f64 (X % 9223372036854775808) = some (X % 9223372036854775808)) (w : World) :
    Calls Try.prog 25 #[.float .f64 Y, .float .f64 X] w fun e w' => ∃ r, e = .returned (.float .f64 r) ∧ FR .f64 r (angV true false true (Y % 9223372036854775808) (X % 9223372036854775808)) ∧ ∃ n, w' = w.drewN n := by
  have HFY : Hid (cmp .f64 (bin .sub .f64 (val .f64 Y) (val .f64 Y)) (some 0) = some .eq) := hfy
  have HFX : Hid (cmp .f64 (bin .sub .f64 (val .f64 X) (val .f64 X)) (some 0) = some .eq) := hfx
  have Va : Hid (val .f64 (Y % 9223372036854775808) = some (Y % 9223372036854775808)) := va
  have Vb : Hid (val .f64 (X % 9223372036854775808) = some (X % 9223372036854775808)) := vb
  clear hfx hfy va vb
  go_enter Try.func25, Try.ntmps25
  go_wp2_with (first | ((refine wpList_fbin (o := ⟨some 16, _, _, _, _, _⟩) rfl _ _ _ _ _ rfl (by decide) _ _ _ rfl rfl ?_; intro a1 na1 ha1); have ta1 : (FloatKind.f64.format.order a1 0 != some .eq) = false := (by rw [order_cmp, ha1.val, vZERO, HFY.out]; rfl)) | ((refine wpList_fbin (o := ⟨some 21, _, _, _, _, _⟩) rfl _ _ _ _ _ rfl (by decide) _ _ _ rfl rfl ?_; intro a2 na2 ha2); have ta2 : (FloatKind.f64.format.order a2 0 != some .eq) = false := (by rw [order_cmp, ha2.val, vZERO, HFX.out]; rfl)) | (go_at_call 22; first | (refine (math_Abs _ lY _).mono ?_; rintro e w' ⟨rfl, rfl⟩) | (refine (math_Abs _ lX _).mono ?_; rintro e w' ⟨rfl, rfl⟩)) | (refine wpList_fbin (o := ⟨some 41, _, _, _, _, _⟩) rfl _ _ _ _ _ rfl (by decide) _ _ _ rfl rfl ?_; intro t nt ht; rw [Vb.out, Va.out] at ht) | fail)
  have ht0 : FR .f64 t (angT (angS true (Y % 9223372036854775808) (X % 9223372036854775808)) 0) := ht
  clear ht
  go_loopw [8, 9] (fun t k wr => ∃ (i tb : Nat), i ≤ 3 ∧ t = .float .f64 tb ∧ k = .int .i64 (i : Int) ∧ FR .f64 tb (angT (angS true (Y % 9223372036854775808) (X % 9223372036854775808)) i) ∧ ∃ n, wr = w.drewN n) (fun _ k _ => 3 - (intOf k).toNat)
  case atStart => exact ⟨0, _, Nat.zero_le _, rfl, rfl, ht0, _, rfl⟩
  case round =>
    obtain ⟨i, t, hi, rfl, rfl, ht, nw, rfl⟩ := hrel
    by_cases hlt : i < 3
    · have b1 : (i : Int) < 3 := by omega
      go_wp2_with (first | (refine wpList_fbin (o := ⟨some 52, _, _, _, _, _⟩) rfl _ _ _ _ _ rfl (by decide) _ _ _ rfl rfl ?_; intro m1 nm1 hm1; rw [ht.val] at hm1) | (refine wpList_fbin (o := ⟨some 53, _, _, _, _, _⟩) rfl _ _ _ _ _ rfl (by decide) _ _ _ rfl rfl ?_; intro p1 np1 hp1; rw [vONE, hm1.val] at hp1) | (go_at_call 23; refine (math_Sqrt _ _).mono ?_; rintro e w' ⟨q1, rfl, hq1, nq1, rfl⟩; rw [hp1.val] at hq1) | (refine wpList_fbin (o := ⟨some 55, _, _, _, _, _⟩) rfl _ _ _ _ _ rfl (by decide) _ _ _ rfl rfl ?_; intro d1 nd1 hd1; rw [vONE, hq1.val] at hd1) | (refine wpList_fbin (o := ⟨some 56, _, _, _, _, _⟩) rfl _ _ _ _ _ rfl (by decide) _ _ _ rfl rfl ?_; intro r1 nr1 hr1; rw [ht.val, hd1.val] at hr1) | fail)
      go_roundw
      case rel => exact ⟨i + 1, _, hlt, rfl, by simp, hr1, _, rfl⟩
      case measure => simp [intOf]; omega
    · obtain rfl : i = 3 := by omega
      clear hi hlt
      go_wp2_with (first | (refine wpList_fbin (o := ⟨some 59, _, _, _, _, _⟩) rfl _ _ _ _ _ rfl (by decide) _ _ _ rfl rfl ?_; intro u nu hu; rw [ht.val] at hu) | fail)
      go_loopw [11, 12] (fun p k wr => ∃ i : Nat, i ≤ 8 ∧ ∃ pb : Nat, p = .float .f64 pb ∧ k = .int .i64 (15 - 2 * (i : Int)) ∧ FR .f64 pb (angQ (bin .mul .f64 (angT (angS true (Y % 9223372036854775808) (X % 9223372036854775808)) 3) (angT (angS true (Y % 9223372036854775808) (X % 9223372036854775808)) 3)) i) ∧ ∃ n, wr = w.drewN n) (fun _ k _ => (intOf k + 1).toNat)
      case atStart => exact ⟨0, by omega, _, rfl, rfl, ⟨by decide, vZERO⟩, _, rfl⟩
      case round =>
        obtain ⟨i, hi, pb, rfl, rfl, hpp, nw, rfl⟩ := hrel
        by_cases hlt : i < 8
        · have hvk : Hid (floatOfInt .f64 (15 - 2 * (i : Int)) = logK (i + 5)) := (ang_consts i hlt).2.2.1
          have hb1 : (1 : Int) ≤ 15 - 2 * (i : Int) := by omega
          have hb8 : (15 : Int) - 2 * (i : Int) ≤ 15 := by omega
          have hlt' : i + 1 ≤ 8 := hlt
          clear hi hlt
          go_wp2_with (first | (refine wpList_fbin (o := ⟨some 66, _, _, _, _, _⟩) rfl _ _ _ _ _ rfl (by decide) _ _ _ rfl rfl ?_; intro c1 nc1 hc1; rw [vONE, val_ofInt, hvk.out] at hc1) | (refine wpList_fbin (o := ⟨some 69, _, _, _, _, _⟩) rfl _ _ _ _ _ rfl (by decide) _ _ _ rfl rfl ?_; intro c2 nc2 hc2; rw [hu.val, hpp.val] at hc2) | (refine wpList_fbin (o := ⟨some 70, _, _, _, _, _⟩) rfl _ _ _ _ _ rfl (by decide) _ _ _ rfl rfl ?_; intro c3 nc3 hc3; rw [hc1.val, hc2.val] at hc3) | fail)
          go_roundw
          case rel => exact ⟨i + 1, hlt', _, rfl, by congr 1; omega, hc3, _, rfl⟩
          case measure => simp [intOf]; omega
        · obtain rfl : i = 8 := by omega
          clear hi hlt
          go_wp2_with (first | (refine wpList_fbin (o := ⟨some 73, _, _, _, _, _⟩) rfl _ _ _ _ _ rfl (by decide) _ _ _ rfl rfl ?_; intro e1 ne1 he1; rw [ht.val, hpp.val] at he1) | (refine wpList_fbin (o := ⟨some 74, _, _, _, _, _⟩) rfl _ _ _ _ _ rfl (by decide) _ _ _ rfl rfl ?_; intro e2 ne2 he2; rw [vEIGHT, he1.val] at he2) | (refine wpList_fbin (o := ⟨some 75, _, _, _, _, _⟩) rfl _ _ _ _ _ rfl (by decide) _ _ _ rfl rfl ?_; intro e3 ne3 he3; rw [he2.val, vTURN] at he3) | (refine wpList_fbin (o := ⟨some 78, _, _, _, _, _⟩) rfl _ _ _ _ _ rfl (by decide) _ _ _ rfl rfl ?_; intro e4 ne4 he4; rw [vQUARTER, he3.val] at he4) | fail)
          go_ret
          exact ⟨_, rfl, FR_neg64 he4, _, rfl⟩

theorem spec_Angle_1000 (Y X : Nat) (lY : Y < 18446744073709551616) (lX : X < 18446744073709551616) (hfy : cmp .f64 (bin .sub .f64 (val .f64 Y) (val .f64 Y)) (some 0) = some .eq) (hfx : cmp .f64 (bin .sub .f64 (val .f64 X) (val .f64 X)) (some 0) = some .eq)
    (t0 : (FloatKind.f64.format.order X 0 == some .eq) = false) (t1 : (FloatKind.f64.format.order (Y % 9223372036854775808) (X % 9223372036854775808) == some .gt) = true) (t2 : (FloatKind.f64.format.order X 0 == some .lt) = false) (t3 : (FloatKind.f64.format.order Y 0 == some .lt) = false)
    (va : val .f64 (Y % 9223372036854775808) = some (Y % 9223372036854775808)) (vb : val .f64 (X % 9223372036854775808) = some (X % 9223372036854775808)) (w : World) :
    Calls Try.prog 25 #[.float .f64 Y, .float .f64 X] w fun e w' => ∃ r, e = .returned (.float .f64 r) ∧ FR .f64 r (angV true false false (Y % 9223372036854775808) (X % 9223372036854775808)) ∧ ∃ n, w' = w.drewN n := by
  have HFY : Hid (cmp .f64 (bin .sub .f64 (val .f64 Y) (val .f64 Y)) (some 0) = some .eq) := hfy
  have HFX : Hid (cmp .f64 (bin .sub .f64 (val .f64 X) (val .f64 X)) (some 0) = some .eq) := hfx
  have Va : Hid (val .f64 (Y % 9223372036854775808) = some (Y % 9223372036854775808)) := va
  have Vb : Hid (val .f64 (X % 9223372036854775808) = some (X % 9223372036854775808)) := vb
  clear hfx hfy va vb
  go_enter Try.func25, Try.ntmps25
  go_wp2_with (first | ((refine wpList_fbin (o := ⟨some 16, _, _, _, _, _⟩) rfl _ _ _ _ _ rfl (by decide) _ _ _ rfl rfl ?_; intro a1 na1 ha1); have ta1 : (FloatKind.f64.format.order a1 0 != some .eq) = false := (by rw [order_cmp, ha1.val, vZERO, HFY.out]; rfl)) | ((refine wpList_fbin (o := ⟨some 21, _, _, _, _, _⟩) rfl _ _ _ _ _ rfl (by decide) _ _ _ rfl rfl ?_; intro a2 na2 ha2); have ta2 : (FloatKind.f64.format.order a2 0 != some .eq) = false := (by rw [order_cmp, ha2.val, vZERO, HFX.out]; rfl)) | (go_at_call 22; first | (refine (math_Abs _ lY _).mono ?_; rintro e w' ⟨rfl, rfl⟩) | (refine (math_Abs _ lX _).mono ?_; rintro e w' ⟨rfl, rfl⟩)) | (refine wpList_fbin (o := ⟨some 41, _, _, _, _, _⟩) rfl _ _ _ _ _ rfl (by decide) _ _ _ rfl rfl ?_; intro t nt ht; rw [Vb.out, Va.out] at ht) | fail)
  have ht0 : FR .f64 t (angT (angS true (Y % 9223372036854775808) (X % 9223372036854775808)) 0) := ht
  clear ht
  go_loopw [8, 9] (fun t k wr => ∃ (i tb : Nat), i ≤ 3 ∧ t = .float .f64 tb ∧ k = .int .i64 (i : Int) ∧ FR .f64 tb (angT (angS true (Y % 9223372036854775808) (X % 9223372036854775808)) i) ∧ ∃ n, wr = w.drewN n) (fun _ k _ => 3 - (intOf k).toNat)
  case atStart => exact ⟨0, _, Nat.zero_le _, rfl, rfl, ht0, _, rfl⟩
  case round =>
    obtain ⟨i, t, hi, rfl, rfl, ht, nw, rfl⟩ := hrel
    by_cases hlt : i < 3
    · have b1 : (i : Int) < 3 := by omega
      go_wp2_with (first | (refine wpList_fbin (o := ⟨some 52, _, _, _, _, _⟩) rfl _ _ _ _ _ rfl (by decide) _ _ _ rfl rfl ?_; intro m1 nm1 hm1; rw [ht.val] at hm1) | (refine wpList_fbin (o := ⟨some 53, _, _, _, _, _⟩) rfl _ _ _ _ _ rfl (by decide) _ _ _ rfl rfl ?_; intro p1 np1 hp1; rw [vONE, hm1.val] at hp1) | (go_at_call 23; refine (math_Sqrt _ _).mono ?_; rintro e w' ⟨q1, rfl, hq1, nq1, rfl⟩; rw [hp1.val] at hq1) | (refine wpList_fbin (o := ⟨some 55, _, _, _, _, _⟩) rfl _ _ _ _ _ rfl (by decide) _ _ _ rfl rfl ?_; intro d1 nd1 hd1; rw [vONE, hq1.val] at hd1) | (refine wpList_fbin (o := ⟨some 56, _, _, _, _, _⟩) rfl _ _ _ _ _ rfl (by decide) _ _ _ rfl rfl ?_; intro r1 nr1 hr1; rw [ht.val, hd1.val] at hr1) | fail)
      go_roundw
      case rel => exact ⟨i + 1, _, hlt, rfl, by simp, hr1, _, rfl⟩
      case measure => simp [intOf]; omega
    · obtain rfl : i = 3 := by omega
      clear hi hlt
      go_wp2_with (first | (refine wpList_fbin (o := ⟨some 59, _, _, _, _, _⟩) rfl _ _ _ _ _ rfl (by decide) _ _ _ rfl rfl ?_; intro u nu hu; rw [ht.val] at hu) | fail)
      go_loopw [11, 12] (fun p k wr => ∃ i : Nat, i ≤ 8 ∧ ∃ pb : Nat, p = .float .f64 pb ∧ k = .int .i64 (15 - 2 * (i : Int)) ∧ FR .f64 pb (angQ (bin .mul .f64 (angT (angS true (Y % 9223372036854775808) (X % 9223372036854775808)) 3) (angT (angS true (Y % 9223372036854775808) (X % 9223372036854775808)) 3)) i) ∧ ∃ n, wr = w.drewN n) (fun _ k _ => (intOf k + 1).toNat)
      case atStart => exact ⟨0, by omega, _, rfl, rfl, ⟨by decide, vZERO⟩, _, rfl⟩
      case round =>
        obtain ⟨i, hi, pb, rfl, rfl, hpp, nw, rfl⟩ := hrel
        by_cases hlt : i < 8
        · have hvk : Hid (floatOfInt .f64 (15 - 2 * (i : Int)) = logK (i + 5)) := (ang_consts i hlt).2.2.1
          have hb1 : (1 : Int) ≤ 15 - 2 * (i : Int) := by omega
          have hb8 : (15 : Int) - 2 * (i : Int) ≤ 15 := by omega
          have hlt' : i + 1 ≤ 8 := hlt
          clear hi hlt
          go_wp2_with (first | (refine wpList_fbin (o := ⟨some 66, _, _, _, _, _⟩) rfl _ _ _ _ _ rfl (by decide) _ _ _ rfl rfl ?_; intro c1 nc1 hc1; rw [vONE, val_ofInt, hvk.out] at hc1) | (refine wpList_fbin (o := ⟨some 69, _, _, _, _, _⟩) rfl _ _ _ _ _ rfl (by decide) _ _ _ rfl rfl ?_; intro c2 nc2 hc2; rw [hu.val, hpp.val] at hc2) | (refine wpList_fbin (o := ⟨some 70, _, _, _, _, _⟩) rfl _ _ _ _ _ rfl (by decide) _ _ _ rfl rfl ?_; intro c3 nc3 hc3; rw [hc1.val, hc2.val] at hc3) | fail)
          go_roundw
          case rel => exact ⟨i + 1, hlt', _, rfl, by congr 1; omega, hc3, _, rfl⟩
          case measure => simp [intOf]; omega
        · obtain rfl : i = 8 := by omega
          clear hi hlt
          go_wp2_with (first | (refine wpList_fbin (o := ⟨some 73, _, _, _, _, _⟩) rfl _ _ _ _ _ rfl (by decide) _ _ _ rfl rfl ?_; intro e1 ne1 he1; rw [ht.val, hpp.val] at he1) | (refine wpList_fbin (o := ⟨some 74, _, _, _, _, _⟩) rfl _ _ _ _ _ rfl (by decide) _ _ _ rfl rfl ?_; intro e2 ne2 he2; rw [vEIGHT, he1.val] at he2) | (refine wpList_fbin (o := ⟨some 75, _, _, _, _, _⟩) rfl _ _ _ _ _ rfl (by decide) _ _ _ rfl rfl ?_; intro e3 ne3 he3; rw [he2.val, vTURN] at he3) | (refine wpList_fbin (o := ⟨some 78, _, _, _, _, _⟩) rfl _ _ _ _ _ rfl (by decide) _ _ _ rfl rfl ?_; intro e4 ne4 he4; rw [vQUARTER, he3.val] at he4) | fail)
          go_ret
          exact ⟨_, rfl, he4, _, rfl⟩

theorem spec_Angle_0110 (Y X : Nat) (lY : Y < 18446744073709551616) (lX : X < 18446744073709551616) (hfy : cmp .f64 (bin .sub .f64 (val .f64 Y) (val .f64 Y)) (some 0) = some .eq) (hfx : cmp .f64 (bin .sub .f64 (val .f64 X) (val .f64 X)) (some 0) = some .eq)
    (t0 : (FloatKind.f64.format.order X 0 == some .eq) = false) (t1 : (FloatKind.f64.format.order (Y % 9223372036854775808) (X % 9223372036854775808) == some .gt) = false) (t2 : (FloatKind.f64.format.order X 0 == some .lt) = true) (t3 : (FloatKind.f64.format.order Y 0 == some .lt) = true)
    (va : val .f64 (Y % 9223372036854775808) = some (Y % 9223372036854775808)) (vb : val .f64 (X % 9223372036854775808) = some (X % 9223372036854775808)) (w : World) :
    Calls Try.prog 25 #[.float .f64 Y, .float .f64 X] w fun e w' => ∃ r, e = .returned (.float .f64 r) ∧ FR .f64 r (angV false true true (Y % 9223372036854775808) (X % 9223372036854775808)) ∧ ∃ n, w' = w.drewN n := by
  have HFY : Hid (cmp .f64 (bin .sub .f64 (val .f64 Y) (val .f64 Y)) (some 0) = some .eq) := hfy
  have HFX : Hid (cmp .f64 (bin .sub .f64 (val .f64 X) (val .f64 X)) (some 0) = some .eq) := hfx
  have Va : Hid (val .f64 (Y % 9223372036854775808) = some (Y % 9223372036854775808)) := va
  have Vb : Hid (val .f64 (X % 9223372036854775808) = some (X % 9223372036854775808)) := vb
  clear hfx hfy va vb
  go_enter Try.func25, Try.ntmps25
  go_wp2_with (first | ((refine wpList_fbin (o := ⟨some 16, _, _, _, _, _⟩) rfl _ _ _ _ _ rfl (by decide) _ _ _ rfl rfl ?_; intro a1 na1 ha1); have ta1 : (FloatKind.f64.format.order a1 0 != some .eq) = false := (by rw [order_cmp, ha1.val, vZERO, HFY.out]; rfl)) | ((refine wpList_fbin (o := ⟨some 21, _, _, _, _, _⟩) rfl _ _ _ _ _ rfl (by decide) _ _ _ rfl rfl ?_; intro a2 na2 ha2); have ta2 : (FloatKind.f64.format.order a2 0 != some .eq) = false := (by rw [order_cmp, ha2.val, vZERO, HFX.out]; rfl)) | (go_at_call 22; first | (refine (math_Abs _ lY _).mono ?_; rintro e w' ⟨rfl, rfl⟩) | (refine (math_Abs _ lX _).mono ?_; rintro e w' ⟨rfl, rfl⟩)) | (refine wpList_fbin (o := ⟨some 44, _, _, _, _, _⟩) rfl _ _ _ _ _ rfl (by decide) _ _ _ rfl rfl ?_; intro t nt ht; rw [Va.out, Vb.out] at ht) | fail)
  have ht0 : FR .f64 t (angT (angS false (Y % 9223372036854775808) (X % 9223372036854775808)) 0) := ht
  clear ht
  go_loopw [8, 9] (fun t k wr => ∃ (i tb : Nat), i ≤ 3 ∧ t = .float .f64 tb ∧ k = .int .i64 (i : Int) ∧ FR .f64 tb (angT (angS false (Y % 9223372036854775808) (X % 9223372036854775808)) i) ∧ ∃ n, wr = w.drewN n) (fun _ k _ => 3 - (intOf k).toNat)
  case atStart => exact ⟨0, _, Nat.zero_le _, rfl, rfl, ht0, _, rfl⟩
  case round =>
    obtain ⟨i, t, hi, rfl, rfl, ht, nw, rfl⟩ := hrel
    by_cases hlt : i < 3
    · have b1 : (i : Int) < 3 := by omega
      go_wp2_with (first | (refine wpList_fbin (o := ⟨some 52, _, _, _, _, _⟩) rfl _ _ _ _ _ rfl (by decide) _ _ _ rfl rfl ?_; intro m1 nm1 hm1; rw [ht.val] at hm1) | (refine wpList_fbin (o := ⟨some 53, _, _, _, _, _⟩) rfl _ _ _ _ _ rfl (by decide) _ _ _ rfl rfl ?_; intro p1 np1 hp1; rw [vONE, hm1.val] at hp1) | (go_at_call 23; refine (math_Sqrt _ _).mono ?_; rintro e w' ⟨q1, rfl, hq1, nq1, rfl⟩; rw [hp1.val] at hq1) | (refine wpList_fbin (o := ⟨some 55, _, _, _, _, _⟩) rfl _ _ _ _ _ rfl (by decide) _ _ _ rfl rfl ?_; intro d1 nd1 hd1; rw [vONE, hq1.val] at hd1) | (refine wpList_fbin (o := ⟨some 56, _, _, _, _, _⟩) rfl _ _ _ _ _ rfl (by decide) _ _ _ rfl rfl ?_; intro r1 nr1 hr1; rw [ht.val, hd1.val] at hr1) | fail)
      go_roundw
      case rel => exact ⟨i + 1, _, hlt, rfl, by simp, hr1, _, rfl⟩
      case measure => simp [intOf]; omega
    · obtain rfl : i = 3 := by omega
      clear hi hlt
      go_wp2_with (first | (refine wpList_fbin (o := ⟨some 59, _, _, _, _, _⟩) rfl _ _ _ _ _ rfl (by decide) _ _ _ rfl rfl ?_; intro u nu hu; rw [ht.val] at hu) | fail)
      go_loopw [11, 12] (fun p k wr => ∃ i : Nat, i ≤ 8 ∧ ∃ pb : Nat, p = .float .f64 pb ∧ k = .int .i64 (15 - 2 * (i : Int)) ∧ FR .f64 pb (angQ (bin .mul .f64 (angT (angS false (Y % 9223372036854775808) (X % 9223372036854775808)) 3) (angT (angS false (Y % 9223372036854775808) (X % 9223372036854775808)) 3)) i) ∧ ∃ n, wr = w.drewN n) (fun _ k _ => (intOf k + 1).toNat)
      case atStart => exact ⟨0, by omega, _, rfl, rfl, ⟨by decide, vZERO⟩, _, rfl⟩
      case round =>
        obtain ⟨i, hi, pb, rfl, rfl, hpp, nw, rfl⟩ := hrel
        by_cases hlt : i < 8
        · have hvk : Hid (floatOfInt .f64 (15 - 2 * (i : Int)) = logK (i + 5)) := (ang_consts i hlt).2.2.1
          have hb1 : (1 : Int) ≤ 15 - 2 * (i : Int) := by omega
          have hb8 : (15 : Int) - 2 * (i : Int) ≤ 15 := by omega
          have hlt' : i + 1 ≤ 8 := hlt
          clear hi hlt
          go_wp2_with (first | (refine wpList_fbin (o := ⟨some 66, _, _, _, _, _⟩) rfl _ _ _ _ _ rfl (by decide) _ _ _ rfl rfl ?_; intro c1 nc1 hc1; rw [vONE, val_ofInt, hvk.out] at hc1) | (refine wpList_fbin (o := ⟨some 69, _, _, _, _, _⟩) rfl _ _ _ _ _ rfl (by decide) _ _ _ rfl rfl ?_; intro c2 nc2 hc2; rw [hu.val, hpp.val] at hc2) | (refine wpList_fbin (o := ⟨some 70, _, _, _, _, _⟩) rfl _ _ _ _ _ rfl (by decide) _ _ _ rfl rfl ?_; intro c3 nc3 hc3; rw [hc1.val, hc2.val] at hc3) | fail)
          go_roundw
          case rel => exact ⟨i + 1, hlt', _, rfl, by congr 1; omega, hc3, _, rfl⟩
          case measure => simp [intOf]; omega
        · obtain rfl : i = 8 := by omega
          clear hi hlt
          go_wp2_with (first | (refine wpList_fbin (o := ⟨some 73, _, _, _, _, _⟩) rfl _ _ _ _ _ rfl (by decide) _ _ _ rfl rfl ?_; intro e1 ne1 he1; rw [ht.val, hpp.val] at he1) | (refine wpList_fbin (o := ⟨some 74, _, _, _, _, _⟩) rfl _ _ _ _ _ rfl (by decide) _ _ _ rfl rfl ?_; intro e2 ne2 he2; rw [vEIGHT, he1.val] at he2) | (refine wpList_fbin (o := ⟨some 75, _, _, _, _, _⟩) rfl _ _ _ _ _ rfl (by decide) _ _ _ rfl rfl ?_; intro e3 ne3 he3; rw [he2.val, vTURN] at he3) | (refine wpList_fbin (o := ⟨some 82, _, _, _, _, _⟩) rfl _ _ _ _ _ rfl (by decide) _ _ _ rfl rfl ?_; intro e5 ne5 he5; rw [vHALF, he3.val] at he5) | fail)
          go_ret
          exact ⟨_, rfl, FR_neg64 he5, _, rfl⟩

theorem spec_Angle_0100 (Y X : Nat) (lY : Y < 18446744073709551616) (lX : X < 18446744073709551616) (hfy : cmp .f64 (bin .sub .f64 (val .f64 Y) (val .f64 Y)) (some 0) = some .eq) (hfx : cmp .f64 (bin .sub .f64 (val .f64 X) (val .f64 X)) (some 0) = some .eq)
    (t0 : (FloatKind.f64.format.order X 0 == some .eq) = false) (t1 : (FloatKind.f64.format.order (Y % 9223372036854775808) (X % 9223372036854775808) == some .gt) = false) (t2 : (FloatKind.f64.format.order X 0 == some .lt) = true) (t3 : (FloatKind.f64.format.order Y 0 == some .lt) = false)
    (va : val .f64 (Y % 9223372036854775808) = some (Y % 9223372036854775808)) (vb : val .f64 (X % 9223372036854775808) = some (X % 9223372036854775808)) (w : World) :
    Calls Try.prog 25 #[.float .f64 Y, .float .f64 X] w fun e w' => ∃ r, e = .returned (.float .f64 r) ∧ FR .f64 r (angV false true false (Y % 9223372036854775808) (X % 9223372036854775808)) ∧ ∃ n, w' = w.drewN n := by
  have HFY : Hid (cmp .f64 (bin .sub .f64 (val .f64 Y) (val .f64 Y)) (some 0) = some .eq) := hfy
  have HFX : Hid (cmp .f64 (bin .sub .f64 (val .f64 X) (val .f64 X)) (some 0) = some .eq) := hfx
  have Va : Hid (val .f64 (Y % 9223372036854775808) = some (Y % 9223372036854775808)) := va
  have Vb : Hid (val .f64 (X % 9223372036854775808) = some (X % 9223372036854775808)) := vb
  clear hfx hfy va vb
  go_enter Try.func25, Try.ntmps25
  go_wp2_with (first | ((refine wpList_fbin (o := ⟨some 16, _, _, _, _, _⟩) rfl _ _ _ _ _ rfl (by decide) _ _ _ rfl rfl ?_; intro a1 na1 ha1); have ta1 : (FloatKind.f64.format.order a1 0 != some .eq) = false := (by rw [order_cmp, ha1.val, vZERO, HFY.out]; rfl)) | ((refine wpList_fbin (o := ⟨some 21, _, _, _, _, _⟩) rfl _ _ _ _ _ rfl (by decide) _ _ _ rfl rfl ?_; intro a2 na2 ha2); have ta2 : (FloatKind.f64.format.order a2 0 != some .eq) = false := (by rw [order_cmp, ha2.val, vZERO, HFX.out]; rfl)) | (go_at_call 22; first | (refine (math_Abs _ lY _).mono ?_; rintro e w' ⟨rfl, rfl⟩) | (refine (math_Abs _ lX _).mono ?_; rintro e w' ⟨rfl, rfl⟩)) | (refine wpList_fbin (o := ⟨some 44, _, _, _, _, _⟩) rfl _ _ _ _ _ rfl (by decide) _ _ _ rfl rfl ?_; intro t nt ht; rw [Va.out, Vb.out] at ht) | fail)
  have ht0 : FR .f64 t (angT (angS false (Y % 9223372036854775808) (X % 9223372036854775808)) 0) := ht
  clear ht
  go_loopw [8, 9] (fun t k wr => ∃ (i tb : Nat), i ≤ 3 ∧ t = .float .f64 tb ∧ k = .int .i64 (i : Int) ∧ FR .f64 tb (angT (angS false (Y % 9223372036854775808) (X % 9223372036854775808)) i) ∧ ∃ n, wr = w.drewN n) (fun _ k _ => 3 - (intOf k).toNat)
  case atStart => exact ⟨0, _, Nat.zero_le _, rfl, rfl, ht0, _, rfl⟩
  case round =>
    obtain ⟨i, t, hi, rfl, rfl, ht, nw, rfl⟩ := hrel
    by_cases hlt : i < 3
    · have b1 : (i : Int) < 3 := by omega
      go_wp2_with (first | (refine wpList_fbin (o := ⟨some 52, _, _, _, _, _⟩) rfl _ _ _ _ _ rfl (by decide) _ _ _ rfl rfl ?_; intro m1 nm1 hm1; rw [ht.val] at hm1) | (refine wpList_fbin (o := ⟨some 53, _, _, _, _, _⟩) rfl _ _ _ _ _ rfl (by decide) _ _ _ rfl rfl ?_; intro p1 np1 hp1; rw [vONE, hm1.val] at hp1) | (go_at_call 23; refine (math_Sqrt _ _).mono ?_; rintro e w' ⟨q1, rfl, hq1, nq1, rfl⟩; rw [hp1.val] at hq1) | (refine wpList_fbin (o := ⟨some 55, _, _, _, _, _⟩) rfl _ _ _ _ _ rfl (by decide) _ _ _ rfl rfl ?_; intro d1 nd1 hd1; rw [vONE, hq1.val] at hd1) | (refine wpList_fbin (o := ⟨some 56, _, _, _, _, _⟩) rfl _ _ _ _ _ rfl (by decide) _ _ _ rfl rfl ?_; intro r1 nr1 hr1; rw [ht.val, hd1.val] at hr1) | fail)
      go_roundw
      case rel => exact ⟨i + 1, _, hlt, rfl, by simp, hr1, _, rfl⟩
      case measure => simp [intOf]; omega
    · obtain rfl : i = 3 := by omega
      clear hi hlt
      go_wp2_with (first | (refine wpList_fbin (o := ⟨some 59, _, _, _, _, _⟩) rfl _ _ _ _ _ rfl (by decide) _ _ _ rfl rfl ?_; intro u nu hu; rw [ht.val] at hu) | fail)
      go_loopw [11, 12] (fun p k wr => ∃ i : Nat, i ≤ 8 ∧ ∃ pb : Nat, p = .float .f64 pb ∧ k = .int .i64 (15 - 2 * (i : Int)) ∧ FR .f64 pb (angQ (bin .mul .f64 (angT (angS false (Y % 9223372036854775808) (X % 9223372036854775808)) 3) (angT (angS false (Y % 9223372036854775808) (X % 9223372036854775808)) 3)) i) ∧ ∃ n, wr = w.drewN n) (fun _ k _ => (intOf k + 1).toNat)
      case atStart => exact ⟨0, by omega, _, rfl, rfl, ⟨by decide, vZERO⟩, _, rfl⟩
      case round =>
        obtain ⟨i, hi, pb, rfl, rfl, hpp, nw, rfl⟩ := hrel
        by_cases hlt : i < 8
        · have hvk : Hid (floatOfInt .f64 (15 - 2 * (i : Int)) = logK (i + 5)) := (ang_consts i hlt).2.2.1
          have hb1 : (1 : Int) ≤ 15 - 2 * (i : Int) := by omega
          have hb8 : (15 : Int) - 2 * (i : Int) ≤ 15 := by omega
          have hlt' : i + 1 ≤ 8 := hlt
          clear hi hlt
          go_wp2_with (first | (refine wpList_fbin (o := ⟨some 66, _, _, _, _, _⟩) rfl _ _ _ _ _ rfl (by decide) _ _ _ rfl rfl ?_; intro c1 nc1 hc1; rw [vONE, val_ofInt, hvk.out] at hc1) | (refine wpList_fbin (o := ⟨some 69, _, _, _, _, _⟩) rfl _ _ _ _ _ rfl (by decide) _ _ _ rfl rfl ?_; intro c2 nc2 hc2; rw [hu.val, hpp.val] at hc2) | (refine wpList_fbin (o := ⟨some 70, _, _, _, _, _⟩) rfl _ _ _ _ _ rfl (by decide) _ _ _ rfl rfl ?_; intro c3 nc3 hc3; rw [hc1.val, hc2.val] at hc3) | fail)
          go_roundw
          case rel => exact ⟨i + 1, hlt', _, rfl, by congr 1; omega, hc3, _, rfl⟩
          case measure => simp [intOf]; omega
        · obtain rfl : i = 8 := by omega
          clear hi hlt
          go_wp2_with (first | (refine wpList_fbin (o := ⟨some 73, _, _, _, _, _⟩) rfl _ _ _ _ _ rfl (by decide) _ _ _ rfl rfl ?_; intro e1 ne1 he1; rw [ht.val, hpp.val] at he1) | (refine wpList_fbin (o := ⟨some 74, _, _, _, _, _⟩) rfl _ _ _ _ _ rfl (by decide) _ _ _ rfl rfl ?_; intro e2 ne2 he2; rw [vEIGHT, he1.val] at he2) | (refine wpList_fbin (o := ⟨some 75, _, _, _, _, _⟩) rfl _ _ _ _ _ rfl (by decide) _ _ _ rfl rfl ?_; intro e3 ne3 he3; rw [he2.val, vTURN] at he3) | (refine wpList_fbin (o := ⟨some 82, _, _, _, _, _⟩) rfl _ _ _ _ _ rfl (by decide) _ _ _ rfl rfl ?_; intro e5 ne5 he5; rw [vHALF, he3.val] at he5) | fail)
          go_ret
          exact ⟨_, rfl, he5, _, rfl⟩

theorem spec_Angle_0010 (Y X : Nat) (lY : Y < 18446744073709551616) (lX : X < 18446744073709551616) (hfy : cmp .f64 (bin .sub .f64 (val .f64 Y) (val .f64 Y)) (some 0) = some .eq) (hfx : cmp .f64 (bin .sub .f64 (val .f64 X) (val .f64 X)) (some 0) = some .eq)
    (t0 : (FloatKind.f64.format.order X 0 == some .eq) = false) (t1 : (FloatKind.f64.format.order (Y % 9223372036854775808) (X % 9223372036854775808) == some .gt) = false) (t2 : (FloatKind.f64.format.order X 0 == some .lt) = false) (t3 : (FloatKind.f64.format.order Y 0 == some .lt) = true)
    (va : val .f64 (Y % 9223372036854775808) = some (Y % 9223372036854775808)) (vb : val .f64 (X % 9223372036854775808) = some (X % 9223372036854775808)) (w : World) :
    Calls Try.prog 25 #[.float .f64 Y, .float .f64 X] w fun e w' => ∃ r, e = .returned (.float .f64 r) ∧ FR .f64 r (angV false false true (Y % 9223372036854775808) (X % 9223372036854775808)) ∧ ∃ n, w' = w.drewN n := by
  have HFY : Hid (cmp .f64 (bin .sub .f64 (val .f64 Y) (val .f64 Y)) (some 0) = some .eq) := hfy
  have HFX : Hid (cmp .f64 (bin .sub .f64 (val .f64 X) (val .f64 X)) (some 0) = some .eq) := hfx
  have Va : Hid (val .f64 (Y % 9223372036854775808) = some (Y % 9223372036854775808)) := va
  have Vb : Hid (val .f64 (X % 9223372036854775808) = some (X % 9223372036854775808)) := vb
  clear hfx hfy va vb
  go_enter Try.func25, Try.ntmps25
  go_wp2_with (first | ((refine wpList_fbin (o := ⟨some 16, _, _, _, _, _⟩) rfl _ _ _ _ _ rfl (by decide) _ _ _ rfl rfl ?_; intro a1 na1 ha1); have ta1 : (FloatKind.f64.format.order a1 0 != some .eq) = false := (by rw [order_cmp, ha1.val, vZERO, HFY.out]; rfl)) | ((refine wpList_fbin (o := ⟨some 21, _, _, _, _, _⟩) rfl _ _ _ _ _ rfl (by decide) _ _ _ rfl rfl ?_; intro a2 na2 ha2); have ta2 : (FloatKind.f64.format.order a2 0 != some .eq) = false := (by rw [order_cmp, ha2.val, vZERO, HFX.out]; rfl)) | (go_at_call 22; first | (refine (math_Abs _ lY _).mono ?_; rintro e w' ⟨rfl, rfl⟩) | (refine (math_Abs _ lX _).mono ?_; rintro e w' ⟨rfl, rfl⟩)) | (refine wpList_fbin (o := ⟨some 44, _, _, _, _, _⟩) rfl _ _ _ _ _ rfl (by decide) _ _ _ rfl rfl ?_; intro t nt ht; rw [Va.out, Vb.out] at ht) | fail)
  have ht0 : FR .f64 t (angT (angS false (Y % 9223372036854775808) (X % 9223372036854775808)) 0) := ht
  clear ht
  go_loopw [8, 9] (fun t k wr => ∃ (i tb : Nat), i ≤ 3 ∧ t = .float .f64 tb ∧ k = .int .i64 (i : Int) ∧ FR .f64 tb (angT (angS false (Y % 9223372036854775808) (X % 9223372036854775808)) i) ∧ ∃ n, wr = w.drewN n) (fun _ k _ => 3 - (intOf k).toNat)
  case atStart => exact ⟨0, _, Nat.zero_le _, rfl, rfl, ht0, _, rfl⟩
  case round =>
    obtain ⟨i, t, hi, rfl, rfl, ht, nw, rfl⟩ := hrel
    by_cases hlt : i < 3
    · have b1 : (i : Int) < 3 := by omega
      go_wp2_with (first | (refine wpList_fbin (o := ⟨some 52, _, _, _, _, _⟩) rfl _ _ _ _ _ rfl (by decide) _ _ _ rfl rfl ?_; intro m1 nm1 hm1; rw [ht.val] at hm1) | (refine wpList_fbin (o := ⟨some 53, _, _, _, _, _⟩) rfl _ _ _ _ _ rfl (by decide) _ _ _ rfl rfl ?_; intro p1 np1 hp1; rw [vONE, hm1.val] at hp1) | (go_at_call 23; refine (math_Sqrt _ _).mono ?_; rintro e w' ⟨q1, rfl, hq1, nq1, rfl⟩; rw [hp1.val] at hq1) | (refine wpList_fbin (o := ⟨some 55, _, _, _, _, _⟩) rfl _ _ _ _ _ rfl (by decide) _ _ _ rfl rfl ?_; intro d1 nd1 hd1; rw [vONE, hq1.val] at hd1) | (refine wpList_fbin (o := ⟨some 56, _, _, _, _, _⟩) rfl _ _ _ _ _ rfl (by decide) _ _ _ rfl rfl ?_; intro r1 nr1 hr1; rw [ht.val, hd1.val] at hr1) | fail)
      go_roundw
      case rel => exact ⟨i + 1, _, hlt, rfl, by simp, hr1, _, rfl⟩
      case measure => simp [intOf]; omega
    · obtain rfl : i = 3 := by omega
      clear hi hlt
      go_wp2_with (first | (refine wpList_fbin (o := ⟨some 59, _, _, _, _, _⟩) rfl _ _ _ _ _ rfl (by decide) _ _ _ rfl rfl ?_; intro u nu hu; rw [ht.val] at hu) | fail)
      go_loopw [11, 12] (fun p k wr => ∃ i : Nat, i ≤ 8 ∧ ∃ pb : Nat, p = .float .f64 pb ∧ k = .int .i64 (15 - 2 * (i : Int)) ∧ FR .f64 pb (angQ (bin .mul .f64 (angT (angS false (Y % 9223372036854775808) (X % 9223372036854775808)) 3) (angT (angS false (Y % 9223372036854775808) (X % 9223372036854775808)) 3)) i) ∧ ∃ n, wr = w.drewN n) (fun _ k _ => (intOf k + 1).toNat)
      case atStart => exact ⟨0, by omega, _, rfl, rfl, ⟨by decide, vZERO⟩, _, rfl⟩
      case round =>
        obtain ⟨i, hi, pb, rfl, rfl, hpp, nw, rfl⟩ := hrel
        by_cases hlt : i < 8
        · have hvk : Hid (floatOfInt .f64 (15 - 2 * (i : Int)) = logK (i + 5)) := (ang_consts i hlt).2.2.1
          have hb1 : (1 : Int) ≤ 15 - 2 * (i : Int) := by omega
          have hb8 : (15 : Int) - 2 * (i : Int) ≤ 15 := by omega
          have hlt' : i + 1 ≤ 8 := hlt
          clear hi hlt
          go_wp2_with (first | (refine wpList_fbin (o := ⟨some 66, _, _, _, _, _⟩) rfl _ _ _ _ _ rfl (by decide) _ _ _ rfl rfl ?_; intro c1 nc1 hc1; rw [vONE, val_ofInt, hvk.out] at hc1) | (refine wpList_fbin (o := ⟨some 69, _, _, _, _, _⟩) rfl _ _ _ _ _ rfl (by decide) _ _ _ rfl rfl ?_; intro c2 nc2 hc2; rw [hu.val, hpp.val] at hc2) | (refine wpList_fbin (o := ⟨some 70, _, _, _, _, _⟩) rfl _ _ _ _ _ rfl (by decide) _ _ _ rfl rfl ?_; intro c3 nc3 hc3; rw [hc1.val, hc2.val] at hc3) | fail)
          go_roundw
          case rel => exact ⟨i + 1, hlt', _, rfl, by congr 1; omega, hc3, _, rfl⟩
          case measure => simp [intOf]; omega
        · obtain rfl : i = 8 := by omega
          clear hi hlt
          go_wp2_with (first | (refine wpList_fbin (o := ⟨some 73, _, _, _, _, _⟩) rfl _ _ _ _ _ rfl (by decide) _ _ _ rfl rfl ?_; intro e1 ne1 he1; rw [ht.val, hpp.val] at he1) | (refine wpList_fbin (o := ⟨some 74, _, _, _, _, _⟩) rfl _ _ _ _ _ rfl (by decide) _ _ _ rfl rfl ?_; intro e2 ne2 he2; rw [vEIGHT, he1.val] at he2) | (refine wpList_fbin (o := ⟨some 75, _, _, _, _, _⟩) rfl _ _ _ _ _ rfl (by decide) _ _ _ rfl rfl ?_; intro e3 ne3 he3; rw [he2.val, vTURN] at he3) | fail)
          go_ret
          exact ⟨_, rfl, FR_neg64 he3, _, rfl⟩

theorem spec_Angle_0000 (Y X : Nat) (lY : Y < 18446744073709551616) (lX : X < 18446744073709551616) (hfy : cmp .f64 (bin .sub .f64 (val .f64 Y) (val .f64 Y)) (some 0) = some .eq) (hfx : cmp .f64 (bin .sub .f64 (val .f64 X) (val .f64 X)) (some 0) = some .eq)
    (t0 : (FloatKind.f64.format.order X 0 == some .eq) = false) (t1 : (FloatKind.f64.format.order (Y % 9223372036854775808) (X % 9223372036854775808) == some .gt) = false) (t2 : (FloatKind.f64.format.order X 0 == some .lt) = false) (t3 : (FloatKind.f64.format.order Y 0 == some .lt) = false)
    (va : val .f64 (Y % 9223372036854775808) = some (Y % 9223372036854775808)) (vb : val .f64 (X % 9223372036854775808) = some (X % 9223372036854775808)) (w : World) :
    Calls Try.prog 25 #[.float .f64 Y, .float .f64 X] w fun e w' => ∃ r, e = .returned (.float .f64 r) ∧ FR .f64 r (angV false false false (Y % 9223372036854775808) (X % 9223372036854775808)) ∧ ∃ n, w' = w.drewN n := by
  have HFY : Hid (cmp .f64 (bin .sub .f64 (val .f64 Y) (val .f64 Y)) (some 0) = some .eq) := hfy
  have HFX : Hid (cmp .f64 (bin .sub .f64 (val .f64 X) (val .f64 X)) (some 0) = some .eq) := hfx
  have Va : Hid (val .f64 (Y % 9223372036854775808) = some (Y % 9223372036854775808)) := va
  have Vb : Hid (val .f64 (X % 9223372036854775808) = some (X % 9223372036854775808)) := vb
  clear hfx hfy va vb
  go_enter Try.func25, Try.ntmps25
  go_wp2_with (first | ((refine wpList_fbin (o := ⟨some 16, _, _, _, _, _⟩) rfl _ _ _ _ _ rfl (by decide) _ _ _ rfl rfl ?_; intro a1 na1 ha1); have ta1 : (FloatKind.f64.format.order a1 0 != some .eq) = false := (by rw [order_cmp, ha1.val, vZERO, HFY.out]; rfl)) | ((refine wpList_fbin (o := ⟨some 21, _, _, _, _, _⟩) rfl _ _ _ _ _ rfl (by decide) _ _ _ rfl rfl ?_; intro a2 na2 ha2); have ta2 : (FloatKind.f64.format.order a2 0 != some .eq) = false := (by rw [order_cmp, ha2.val, vZERO, HFX.out]; rfl)) | (go_at_call 22; first | (refine (math_Abs _ lY _).mono ?_; rintro e w' ⟨rfl, rfl⟩) | (refine (math_Abs _ lX _).mono ?_; rintro e w' ⟨rfl, rfl⟩)) | (refine wpList_fbin (o := ⟨some 44, _, _, _, _, _⟩) rfl _ _ _ _ _ rfl (by decide) _ _ _ rfl rfl ?_; intro t nt ht; rw [Va.out, Vb.out] at ht) | fail)
  have ht0 : FR .f64 t (angT (angS false (Y % 9223372036854775808) (X % 9223372036854775808)) 0) := ht
  clear ht
  go_loopw [8, 9] (fun t k wr => ∃ (i tb : Nat), i ≤ 3 ∧ t = .float .f64 tb ∧ k = .int .i64 (i : Int) ∧ FR .f64 tb (angT (angS false (Y % 9223372036854775808) (X % 9223372036854775808)) i) ∧ ∃ n, wr = w.drewN n) (fun _ k _ => 3 - (intOf k).toNat)
  case atStart => exact ⟨0, _, Nat.zero_le _, rfl, rfl, ht0, _, rfl⟩
  case round =>
    obtain ⟨i, t, hi, rfl, rfl, ht, nw, rfl⟩ := hrel
    by_cases hlt : i < 3
    · have b1 : (i : Int) < 3 := by omega
      go_wp2_with (first | (refine wpList_fbin (o := ⟨some 52, _, _, _, _, _⟩) rfl _ _ _ _ _ rfl (by decide) _ _ _ rfl rfl ?_; intro m1 nm1 hm1; rw [ht.val] at hm1) | (refine wpList_fbin (o := ⟨some 53, _, _, _, _, _⟩) rfl _ _ _ _ _ rfl (by decide) _ _ _ rfl rfl ?_; intro p1 np1 hp1; rw [vONE, hm1.val] at hp1) | (go_at_call 23; refine (math_Sqrt _ _).mono ?_; rintro e w' ⟨q1, rfl, hq1, nq1, rfl⟩; rw [hp1.val] at hq1) | (refine wpList_fbin (o := ⟨some 55, _, _, _, _, _⟩) rfl _ _ _ _ _ rfl (by decide) _ _ _ rfl rfl ?_; intro d1 nd1 hd1; rw [vONE, hq1.val] at hd1) | (refine wpList_fbin (o := ⟨some 56, _, _, _, _, _⟩) rfl _ _ _ _ _ rfl (by decide) _ _ _ rfl rfl ?_; intro r1 nr1 hr1; rw [ht.val, hd1.val] at hr1) | fail)
      go_roundw
      case rel => exact ⟨i + 1, _, hlt, rfl, by simp, hr1, _, rfl⟩
      case measure => simp [intOf]; omega
    · obtain rfl : i = 3 := by omega
      clear hi hlt
      go_wp2_with (first | (refine wpList_fbin (o := ⟨some 59, _, _, _, _, _⟩) rfl _ _ _ _ _ rfl (by decide) _ _ _ rfl rfl ?_; intro u nu hu; rw [ht.val] at hu) | fail)
      go_loopw [11, 12] (fun p k wr => ∃ i : Nat, i ≤ 8 ∧ ∃ pb : Nat, p = .float .f64 pb ∧ k = .int .i64 (15 - 2 * (i : Int)) ∧ FR .f64 pb (angQ (bin .mul .f64 (angT (angS false (Y % 9223372036854775808) (X % 9223372036854775808)) 3) (angT (angS false (Y % 9223372036854775808) (X % 9223372036854775808)) 3)) i) ∧ ∃ n, wr = w.drewN n) (fun _ k _ => (intOf k + 1).toNat)
      case atStart => exact ⟨0, by omega, _, rfl, rfl, ⟨by decide, vZERO⟩, _, rfl⟩
      case round =>
        obtain ⟨i, hi, pb, rfl, rfl, hpp, nw, rfl⟩ := hrel
        by_cases hlt : i < 8
        · have hvk : Hid (floatOfInt .f64 (15 - 2 * (i : Int)) = logK (i + 5)) := (ang_consts i hlt).2.2.1
          have hb1 : (1 : Int) ≤ 15 - 2 * (i : Int) := by omega
          have hb8 : (15 : Int) - 2 * (i : Int) ≤ 15 := by omega
          have hlt' : i + 1 ≤ 8 := hlt
          clear hi hlt
          go_wp2_with (first | (refine wpList_fbin (o := ⟨some 66, _, _, _, _, _⟩) rfl _ _ _ _ _ rfl (by decide) _ _ _ rfl rfl ?_; intro c1 nc1 hc1; rw [vONE, val_ofInt, hvk.out] at hc1) | (refine wpList_fbin (o := ⟨some 69, _, _, _, _, _⟩) rfl _ _ _ _ _ rfl (by decide) _ _ _ rfl rfl ?_; intro c2 nc2 hc2; rw [hu.val, hpp.val] at hc2) | (refine wpList_fbin (o := ⟨some 70, _, _, _, _, _⟩) rfl _ _ _ _ _ rfl (by decide) _ _ _ rfl rfl ?_; intro c3 nc3 hc3; rw [hc1.val, hc2.val] at hc3) | fail)
          go_roundw
          case rel => exact ⟨i + 1, hlt', _, rfl, by congr 1; omega, hc3, _, rfl⟩
          case measure => simp [intOf]; omega
        · obtain rfl : i = 8 := by omega
          clear hi hlt
          go_wp2_with (first | (refine wpList_fbin (o := ⟨some 73, _, _, _, _, _⟩) rfl _ _ _ _ _ rfl (by decide) _ _ _ rfl rfl ?_; intro e1 ne1 he1; rw [ht.val, hpp.val] at he1) | (refine wpList_fbin (o := ⟨some 74, _, _, _, _, _⟩) rfl _ _ _ _ _ rfl (by decide) _ _ _ rfl rfl ?_; intro e2 ne2 he2; rw [vEIGHT, he1.val] at he2) | (refine wpList_fbin (o := ⟨some 75, _, _, _, _, _⟩) rfl _ _ _ _ _ rfl (by decide) _ _ _ rfl rfl ?_; intro e3 ne3 he3; rw [he2.val, vTURN] at he3) | fail)
          go_ret
          exact ⟨_, rfl, he3, _, rfl⟩

theorem spec_Angle_1011 (Y X : Nat) (lY : Y < 18446744073709551616) (lX : X < 18446744073709551616) (hfy : cmp .f64 (bin .sub .f64 (val .f64 Y) (val .f64 Y)) (some 0) = some .eq) (hfx : cmp .f64 (bin .sub .f64 (val .f64 X) (val .f64 X)) (some 0) = some .eq)
    (t0 : (FloatKind.f64.format.order X 0 == some .eq) = true) (t0y : (FloatKind.f64.format.order Y 0 == some .eq) = false) (t1 : (FloatKind.f64.format.order (Y % 9223372036854775808) (X % 9223372036854775808) == some .gt) = true) (t2 : (FloatKind.f64.format.order X 0 == some .lt) = false) (t3 : (FloatKind.f64.format.order Y 0 == some .lt) = true)
    (va : val .f64 (Y % 9223372036854775808) = some (Y % 9223372036854775808)) (vb : val .f64 (X % 9223372036854775808) = some (X % 9223372036854775808)) (w : World) :
    Calls Try.prog 25 #[.float .f64 Y, .float .f64 X] w fun e w' => ∃ r, e = .returned (.float .f64 r) ∧ FR .f64 r (angV true false true (Y % 9223372036854775808) (X % 9223372036854775808)) ∧ ∃ n, w' = w.drewN n := by
  have HFY : Hid (cmp .f64 (bin .sub .f64 (val .f64 Y) (val .f64 Y)) (some 0) = some .eq) := hfy
  have HFX : Hid (cmp .f64 (bin .sub .f64 (val .f64 X) (val .f64 X)) (some 0) = some .eq) := hfx
  have Va : Hid (val .f64 (Y % 9223372036854775808) = some (Y % 9223372036854775808)) := va
  have Vb : Hid (val .f64 (X % 9223372036854775808) = some (X % 9223372036854775808)) := vb
  clear hfx hfy va vb
  go_enter Try.func25, Try.ntmps25
  go_wp2_with (first | ((refine wpList_fbin (o := ⟨some 16, _, _, _, _, _⟩) rfl _ _ _ _ _ rfl (by decide) _ _ _ rfl rfl ?_; intro a1 na1 ha1); have ta1 : (FloatKind.f64.format.order a1 0 != some .eq) = false := (by rw [order_cmp, ha1.val, vZERO, HFY.out]; rfl)) | ((refine wpList_fbin (o := ⟨some 21, _, _, _, _, _⟩) rfl _ _ _ _ _ rfl (by decide) _ _ _ rfl rfl ?_; intro a2 na2 ha2); have ta2 : (FloatKind.f64.format.order a2 0 != some .eq) = false := (by rw [order_cmp, ha2.val, vZERO, HFX.out]; rfl)) | (go_at_call 22; first | (refine (math_Abs _ lY _).mono ?_; rintro e w' ⟨rfl, rfl⟩) | (refine (math_Abs _ lX _).mono ?_; rintro e w' ⟨rfl, rfl⟩)) | (refine wpList_fbin (o := ⟨some 41, _, _, _, _, _⟩) rfl _ _ _ _ _ rfl (by decide) _ _ _ rfl rfl ?_; intro t nt ht; rw [Vb.out, Va.out] at ht) | fail)
  have ht0 : FR .f64 t (angT (angS true (Y % 9223372036854775808) (X % 9223372036854775808)) 0) := ht
  clear ht
  go_loopw [8, 9] (fun t k wr => ∃ (i tb : Nat), i ≤ 3 ∧ t = .float .f64 tb ∧ k = .int .i64 (i : Int) ∧ FR .f64 tb (angT (angS true (Y % 9223372036854775808) (X % 9223372036854775808)) i) ∧ ∃ n, wr = w.drewN n) (fun _ k _ => 3 - (intOf k).toNat)
  case atStart => exact ⟨0, _, Nat.zero_le _, rfl, rfl, ht0, _, rfl⟩
  case round =>
    obtain ⟨i, t, hi, rfl, rfl, ht, nw, rfl⟩ := hrel
    by_cases hlt : i < 3
    · have b1 : (i : Int) < 3 := by omega
      go_wp2_with (first | (refine wpList_fbin (o := ⟨some 52, _, _, _, _, _⟩) rfl _ _ _ _ _ rfl (by decide) _ _ _ rfl rfl ?_; intro m1 nm1 hm1; rw [ht.val] at hm1) | (refine wpList_fbin (o := ⟨some 53, _, _, _, _, _⟩) rfl _ _ _ _ _ rfl (by decide) _ _ _ rfl rfl ?_; intro p1 np1 hp1; rw [vONE, hm1.val] at hp1) | (go_at_call 23; refine (math_Sqrt _ _).mono ?_; rintro e w' ⟨q1, rfl, hq1, nq1, rfl⟩; rw [hp1.val] at hq1) | (refine wpList_fbin (o := ⟨some 55, _, _, _, _, _⟩) rfl _ _ _ _ _ rfl (by decide) _ _ _ rfl rfl ?_; intro d1 nd1 hd1; rw [vONE, hq1.val] at hd1) | (refine wpList_fbin (o := ⟨some 56, _, _, _, _, _⟩) rfl _ _ _ _ _ rfl (by decide) _ _ _ rfl rfl ?_; intro r1 nr1 hr1; rw [ht.val, hd1.val] at hr1) | fail)
      go_roundw
      case rel => exact ⟨i + 1, _, hlt, rfl, by simp, hr1, _, rfl⟩
      case measure => simp [intOf]; omega
    · obtain rfl : i = 3 := by omega
      clear hi hlt
      go_wp2_with (first | (refine wpList_fbin (o := ⟨some 59, _, _, _, _, _⟩) rfl _ _ _ _ _ rfl (by decide) _ _ _ rfl rfl ?_; intro u nu hu; rw [ht.val] at hu) | fail)
      go_loopw [11, 12] (fun p k wr => ∃ i : Nat, i ≤ 8 ∧ ∃ pb : Nat, p = .float .f64 pb ∧ k = .int .i64 (15 - 2 * (i : Int)) ∧ FR .f64 pb (angQ (bin .mul .f64 (angT (angS true (Y % 9223372036854775808) (X % 9223372036854775808)) 3) (angT (angS true (Y % 9223372036854775808) (X % 9223372036854775808)) 3)) i) ∧ ∃ n, wr = w.drewN n) (fun _ k _ => (intOf k + 1).toNat)
      case atStart => exact ⟨0, by omega, _, rfl, rfl, ⟨by decide, vZERO⟩, _, rfl⟩
      case round =>
        obtain ⟨i, hi, pb, rfl, rfl, hpp, nw, rfl⟩ := hrel
        by_cases hlt : i < 8
        · have hvk : Hid (floatOfInt .f64 (15 - 2 * (i : Int)) = logK (i + 5)) := (ang_consts i hlt).2.2.1
          have hb1 : (1 : Int) ≤ 15 - 2 * (i : Int) := by omega
          have hb8 : (15 : Int) - 2 * (i : Int) ≤ 15 := by omega
          have hlt' : i + 1 ≤ 8 := hlt
          clear hi hlt
          go_wp2_with (first | (refine wpList_fbin (o := ⟨some 66, _, _, _, _, _⟩) rfl _ _ _ _ _ rfl (by decide) _ _ _ rfl rfl ?_; intro c1 nc1 hc1; rw [vONE, val_ofInt, hvk.out] at hc1) | (refine wpList_fbin (o := ⟨some 69, _, _, _, _, _⟩) rfl _ _ _ _ _ rfl (by decide) _ _ _ rfl rfl ?_; intro c2 nc2 hc2; rw [hu.val, hpp.val] at hc2) | (refine wpList_fbin (o := ⟨some 70, _, _, _, _, _⟩) rfl _ _ _ _ _ rfl (by decide) _ _ _ rfl rfl ?_; intro c3 nc3 hc3; rw [hc1.val, hc2.val] at hc3) | fail)
          go_roundw
          case rel => exact ⟨i + 1, hlt', _, rfl, by congr 1; omega, hc3, _, rfl⟩
          case measure => simp [intOf]; omega
        · obtain rfl : i = 8 := by omega
          clear hi hlt
          go_wp2_with (first | (refine wpList_fbin (o := ⟨some 73, _, _, _, _, _⟩) rfl _ _ _ _ _ rfl (by decide) _ _ _ rfl rfl ?_; intro e1 ne1 he1; rw [ht.val, hpp.val] at he1) | (refine wpList_fbin (o := ⟨some 74, _, _, _, _, _⟩) rfl _ _ _ _ _ rfl (by decide) _ _ _ rfl rfl ?_; intro e2 ne2 he2; rw [vEIGHT, he1.val] at he2) | (refine wpList_fbin (o := ⟨some 75, _, _, _, _, _⟩) rfl _ _ _ _ _ rfl (by decide) _ _ _ rfl rfl ?_; intro e3 ne3 he3; rw [he2.val, vTURN] at he3) | (refine wpList_fbin (o := ⟨some 78, _, _, _, _, _⟩) rfl _ _ _ _ _ rfl (by decide) _ _ _ rfl rfl ?_; intro e4 ne4 he4; rw [vQUARTER, he3.val] at he4) | fail)
          go_ret
          exact ⟨_, rfl, FR_neg64 he4, _, rfl⟩

theorem spec_Angle_1001 (Y X : Nat) (lY : Y < 18446744073709551616) (lX : X < 18446744073709551616) (hfy : cmp .f64 (bin .sub .f64 (val .f64 Y) (val .f64 Y)) (some 0) = some .eq) (hfx : cmp .f64 (bin .sub .f64 (val .f64 X) (val .f64 X)) (some 0) = some .eq)
    (t0 : (FloatKind.f64.format.order X 0 == some .eq) = true) (t0y : (FloatKind.f64.format.order Y 0 == some .eq) = false) (t1 : (FloatKind.f64.format.order (Y % 9223372036854775808) (X % 9223372036854775808) == some .gt) = true) (t2 : (FloatKind.f64.format.order X 0 == some .lt) = false) (t3 : (FloatKind.f64.format.order Y 0 == some .lt) = false)
    (va : val .f64 (Y % 9223372036854775808) = some (Y % 9223372036854775808)) (vb : val .f64 (X % 9223372036854775808) = some (X % 9223372036854775808)) (w : World) :
    Calls Try.prog 25 #[.float .f64 Y, .float .f64 X] w fun e w' => ∃ r, e = .returned (.float .f64 r) ∧ FR .f64 r (angV true false false (Y % 9223372036854775808) (X % 9223372036854775808)) ∧ ∃ n, w' = w.drewN n := by
  have HFY : Hid (cmp .f64 (bin .sub .f64 (val .f64 Y) (val .f64 Y)) (some 0) = some .eq) := hfy
  have HFX : Hid (cmp .f64 (bin .sub .f64 (val .f64 X) (val .f64 X)) (some 0) = some .eq) := hfx
  have Va : Hid (val .f64 (Y % 9223372036854775808) = some (Y % 9223372036854775808)) := va
  have Vb : Hid (val .f64 (X % 9223372036854775808) = some (X % 9223372036854775808)) := vb
  clear hfx hfy va vb
  go_enter Try.func25, Try.ntmps25
  go_wp2_with (first | ((refine wpList_fbin (o := ⟨some 16, _, _, _, _, _⟩) rfl _ _ _ _ _ rfl (by decide) _ _ _ rfl rfl ?_; intro a1 na1 ha1); have ta1 : (FloatKind.f64.format.order a1 0 != some .eq) = false := (by rw [order_cmp, ha1.val, vZERO, HFY.out]; rfl)) | ((refine wpList_fbin (o := ⟨some 21, _, _, _, _, _⟩) rfl _ _ _ _ _ rfl (by decide) _ _ _ rfl rfl ?_; intro a2 na2 ha2); have ta2 : (FloatKind.f64.format.order a2 0 != some .eq) = false := (by rw [order_cmp, ha2.val, vZERO, HFX.out]; rfl)) | (go_at_call 22; first | (refine (math_Abs _ lY _).mono ?_; rintro e w' ⟨rfl, rfl⟩) | (refine (math_Abs _ lX _).mono ?_; rintro e w' ⟨rfl, rfl⟩)) | (refine wpList_fbin (o := ⟨some 41, _, _, _, _, _⟩) rfl _ _ _ _ _ rfl (by decide) _ _ _ rfl rfl ?_; intro t nt ht; rw [Vb.out, Va.out] at ht) | fail)
  have ht0 : FR .f64 t (angT (angS true (Y % 9223372036854775808) (X % 9223372036854775808)) 0) := ht
  clear ht
  go_loopw [8, 9] (fun t k wr => ∃ (i tb : Nat), i ≤ 3 ∧ t = .float .f64 tb ∧ k = .int .i64 (i : Int) ∧ FR .f64 tb (angT (angS true (Y % 9223372036854775808) (X % 9223372036854775808)) i) ∧ ∃ n, wr = w.drewN n) (fun _ k _ => 3 - (intOf k).toNat)
  case atStart => exact ⟨0, _, Nat.zero_le _, rfl, rfl, ht0, _, rfl⟩
  case round =>
    obtain ⟨i, t, hi, rfl, rfl, ht, nw, rfl⟩ := hrel
    by_cases hlt : i < 3
    · have b1 : (i : Int) < 3 := by omega
      go_wp2_with (first | (refine wpList_fbin (o := ⟨some 52, _, _, _, _, _⟩) rfl _ _ _ _ _ rfl (by decide) _ _ _ rfl rfl ?_; intro m1 nm1 hm1; rw [ht.val] at hm1) | (refine wpList_fbin (o := ⟨some 53, _, _, _, _, _⟩) rfl _ _ _ _ _ rfl (by decide) _ _ _ rfl rfl ?_; intro p1 np1 hp1; rw [vONE, hm1.val] at hp1) | (go_at_call 23; refine (math_Sqrt _ _).mono ?_; rintro e w' ⟨q1, rfl, hq1, nq1, rfl⟩; rw [hp1.val] at hq1) | (refine wpList_fbin (o := ⟨some 55, _, _, _, _, _⟩) rfl _ _ _ _ _ rfl (by decide) _ _ _ rfl rfl ?_; intro d1 nd1 hd1; rw [vONE, hq1.val] at hd1) | (refine wpList_fbin (o := ⟨some 56, _, _, _, _, _⟩) rfl _ _ _ _ _ rfl (by decide) _ _ _ rfl rfl ?_; intro r1 nr1 hr1; rw [ht.val, hd1.val] at hr1) | fail)
      go_roundw
      case rel => exact ⟨i + 1, _, hlt, rfl, by simp, hr1, _, rfl⟩
      case measure => simp [intOf]; omega
    · obtain rfl : i = 3 := by omega
      clear hi hlt
      go_wp2_with (first | (refine wpList_fbin (o := ⟨some 59, _, _, _, _, _⟩) rfl _ _ _ _ _ rfl (by decide) _ _ _ rfl rfl ?_; intro u nu hu; rw [ht.val] at hu) | fail)
      go_loopw [11, 12] (fun p k wr => ∃ i : Nat, i ≤ 8 ∧ ∃ pb : Nat, p = .float .f64 pb ∧ k = .int .i64 (15 - 2 * (i : Int)) ∧ FR .f64 pb (angQ (bin .mul .f64 (angT (angS true (Y % 9223372036854775808) (X % 9223372036854775808)) 3) (angT (angS true (Y % 9223372036854775808) (X % 9223372036854775808)) 3)) i) ∧ ∃ n, wr = w.drewN n) (fun _ k _ => (intOf k + 1).toNat)
      case atStart => exact ⟨0, by omega, _, rfl, rfl, ⟨by decide, vZERO⟩, _, rfl⟩
      case round =>
        obtain ⟨i, hi, pb, rfl, rfl, hpp, nw, rfl⟩ := hrel
        by_cases hlt : i < 8
        · have hvk : Hid (floatOfInt .f64 (15 - 2 * (i : Int)) = logK (i + 5)) := (ang_consts i hlt).2.2.1
          have hb1 : (1 : Int) ≤ 15 - 2 * (i : Int) := by omega
          have hb8 : (15 : Int) - 2 * (i : Int) ≤ 15 := by omega
          have hlt' : i + 1 ≤ 8 := hlt
          clear hi hlt
          go_wp2_with (first | (refine wpList_fbin (o := ⟨some 66, _, _, _, _, _⟩) rfl _ _ _ _ _ rfl (by decide) _ _ _ rfl rfl ?_; intro c1 nc1 hc1; rw [vONE, val_ofInt, hvk.out] at hc1) | (refine wpList_fbin (o := ⟨some 69, _, _, _, _, _⟩) rfl _ _ _ _ _ rfl (by decide) _ _ _ rfl rfl ?_; intro c2 nc2 hc2; rw [hu.val, hpp.val] at hc2) | (refine wpList_fbin (o := ⟨some 70, _, _, _, _, _⟩) rfl _ _ _ _ _ rfl (by decide) _ _ _ rfl rfl ?_; intro c3 nc3 hc3; rw [hc1.val, hc2.val] at hc3) | fail)
          go_roundw
          case rel => exact ⟨i + 1, hlt', _, rfl, by congr 1; omega, hc3, _, rfl⟩
          case measure => simp [intOf]; omega
        · obtain rfl : i = 8 := by omega
          clear hi hlt
          go_wp2_with (first | (refine wpList_fbin (o := ⟨some 73, _, _, _, _, _⟩) rfl _ _ _ _ _ rfl (by decide) _ _ _ rfl rfl ?_; intro e1 ne1 he1; rw [ht.val, hpp.val] at he1) | (refine wpList_fbin (o := ⟨some 74, _, _, _, _, _⟩) rfl _ _ _ _ _ rfl (by decide) _ _ _ rfl rfl ?_; intro e2 ne2 he2; rw [vEIGHT, he1.val] at he2) | (refine wpList_fbin (o := ⟨some 75, _, _, _, _, _⟩) rfl _ _ _ _ _ rfl (by decide) _ _ _ rfl rfl ?_; intro e3 ne3 he3; rw [he2.val, vTURN] at he3) | (refine wpList_fbin (o := ⟨some 78, _, _, _, _, _⟩) rfl _ _ _ _ _ rfl (by decide) _ _ _ rfl rfl ?_; intro e4 ne4 he4; rw [vQUARTER, he3.val] at he4) | fail)
          go_ret
          exact ⟨_, rfl, he4, _, rfl⟩

end Go.Proofs.Ytilaempppmhohaa
