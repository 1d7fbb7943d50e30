/-
  The law AngleTurns.
-/
import Derived.Test.YtilaempppmhohaaF1
import Derived.Test.YtilaempppmhohaaF2
namespace Go.Proofs.Ytilaempppmhohaa
open Fl Ieee Go.RowKit
set_option linter.unusedVariables false

/-- What is known of a finite number and of it widened. -/
structure FinF (x : Nat) (zx xn : Bool) : Prop where
  v : val .f32 x = some x
  fin : isFin (val .f32 x) = true
  t0 : (FloatKind.f32.format.order x 0 == some .eq) = zx
  t2 : (FloatKind.f32.format.order x 0 == some .lt) = xn
  s0 : (FloatKind.f64.format.order (W x) 0 == some .eq) = zx
  s2 : (FloatKind.f64.format.order (W x) 0 == some .lt) = xn
  sub : cmp .f64 (bin .sub .f64 (val .f64 (W x)) (val .f64 (W x))) (some 0) = some .eq
  va : val .f64 (W x % 9223372036854775808) = some (W x % 9223372036854775808)
  lt : W x % 9223372036854775808 < 9218868437227405312
  z : zx = true ↔ W x % 9223372036854775808 = 0
  zn : zx = true → xn = false

theorem W_lt (x : Nat) (h : val .f32 x = some x) (w : World) : W x < 18446744073709551616 ∧ val .f64 (W x) = some (W x) := by
  obtain ⟨r, n, _, hr⟩ := run_widen (P := Try.prog) 23 28 x (by kernel_rfl) (by kernel_rfl) w
  obtain ⟨h1, h2⟩ := FR_wid h hr
  rw [← h2]
  exact ⟨hr.lt, h1⟩

theorem zero_of_mul {a c V : Nat} (h : a = c * V) (hc : c = 0) : a = 0 := by rw [h, hc, Nat.zero_mul]

theorem finF {x : Nat} (hf : isFin (val .f32 x) = true) (w : World) : ∃ zx xn, FinF x zx xn := by
  have hv : val .f32 x = some x := by
    rcases val_cases .f32 x with h | h
    · exact h
    · rw [h] at hf; exact absurd hf (by decide)
  have hfin : rung single x < single.infRung := by
    have := isFin_some hv
    rw [hf] at this
    exact of_decide_eq_true this.symm
  obtain ⟨hm, hs, hlt⟩ := W_fin hfin
  obtain ⟨hl, hvw⟩ := W_lt x hv w
  have hz : rung double (W x) = 0 ↔ rung single x = 0 := by
    constructor
    · intro h
      rw [h, mg_zero] at hm
      have h2 := pow_zero_of 925 hm.symm
      clear hm
      rcases Nat.eq_zero_or_pos (rung single x) with h0 | h0
      · exact h0
      · have h3 := mg_pos single h0
        rw [h2] at h3
        exact absurd h3 (Nat.lt_irrefl 0)
    · intro h
      replace hm := zero_of_mul hm (by rw [h, mg_zero])
      rcases Nat.eq_zero_or_pos (rung double (W x)) with h0 | h0
      · exact h0
      · have h3 := mg_pos double h0
        rw [hm] at h3
        exact absurd h3 (Nat.lt_irrefl 0)
  have z1 := zero_tests .f32 (x := x) (Nat.le_of_lt hfin)
  have z2 := zero_tests .f64 (x := W x) (Nat.le_of_lt hlt)
  have er : rung double (W x) = W x % 9223372036854775808 := rfl
  refine ⟨decide (rung single x = 0), decide (sgn single x = true ∧ rung single x ≠ 0), hv, hf, z1.1, z1.2.1, ?_, ?_, ?_, ?_, ?_, ?_, ?_⟩
  · rw [z2.1, decide_eq_decide]; exact hz
  · rw [z2.2.1, decide_eq_decide]
    show sgn double (W x) = true ∧ rung double (W x) ≠ 0 ↔ _
    rw [hs, Ne, hz]
  · rw [hvw]; exact sub_self .f64 hlt
  · exact (pos64 (a := W x % 9223372036854775808) (by rw [← er]; exact Nat.le_of_lt hlt)).2.2
  · rw [← er]; exact hlt
  · rw [decide_eq_true_eq, ← hz, er]
  · intro h
    have := of_decide_eq_true h
    exact decide_eq_false (fun h => h.2 this)

/-- A number that is not finite, widened: taken from itself it is none. -/
theorem notFin {x : Nat} (hf : isFin (val .f32 x) = false) {p : Nat} (hp : FR .f64 p (wid (val .f32 x))) : bin .sub .f64 (val .f64 p) (val .f64 p) = none := by
  rcases val_cases .f32 x with h | h
  · have hi := isFin_some h
    rw [hf] at hi
    have hnn : rung single x ≤ single.infRung := (nn_iff .f32 x).1 h
    have hinf : rung single x = single.infRung := by
      have := of_decide_eq_false hi.symm
      omega
    rw [(FR_wid h hp).1, (FR_wid h hp).2]
    exact sub_inf .f64 (W_inf hinf).1
  · rw [hp.val, h]; rfl

theorem impl_Angle_nan (y x : Nat) (h : isFin (val .f32 x) = false ∨ (isFin (val .f32 x) = true ∧ isFin (val .f32 y) = false)) (w : World) :
    Calls Try.prog 14 #[.float .f32 y, .float .f32 x] w fun e w' => ∃ r, e = .returned (.float .f32 r) ∧ FR .f32 r none ∧ ∃ n, w' = w.drewN n := by
  rcases h with h | ⟨h, h'⟩
  · go_enter Try.func14, Try.ntmps14
    go_wp2_with (first | (go_at_call 20; refine (impl_IsFinite _ _).mono ?_; rintro e w' ⟨rfl, nf, rfl⟩) | (go_at_call 21; refine (math_NaN _).mono ?_; rintro e w' ⟨rfl, rfl⟩) | (refine wpList_narrow (o := ⟨some 21, _, _, _, _, _⟩) rfl _ _ _ rfl _ rfl (by kernel_rfl) (by kernel_rfl) (by rw [nan_val]; exact NarOk.none) ?_; intro r nr hr) | fail)
    go_ret
    refine ⟨r, rfl, ?_, _, rfl⟩
    rw [nan_val] at hr
    exact hr
  · go_enter Try.func14, Try.ntmps14
    go_wp2_with (first | (go_at_call 20; refine (impl_IsFinite _ _).mono ?_; rintro e w' ⟨rfl, nf, rfl⟩) | (go_at_call 21; refine (math_NaN _).mono ?_; rintro e w' ⟨rfl, rfl⟩) | (refine wpList_narrow (o := ⟨some 21, _, _, _, _, _⟩) rfl _ _ _ rfl _ rfl (by kernel_rfl) (by kernel_rfl) (by rw [nan_val]; exact NarOk.none) ?_; intro r nr hr) | fail)
    go_ret
    refine ⟨r, rfl, ?_, _, rfl⟩
    rw [nan_val] at hr
    exact hr

theorem impl_Angle_zero (y x : Nat) {b1 b2 : Bool} (fx : FinF x true b1) (fy : FinF y true b2) (w : World) :
    Calls Try.prog 14 #[.float .f32 y, .float .f32 x] w fun e w' => ∃ r, e = .returned (.float .f32 r) ∧ FR .f32 r (some 0) ∧ ∃ n, w' = w.drewN n := by
  have h1 := fx.fin
  have h2 := fy.fin
  have h3 := fx.t0
  have h4 := fy.t0
  clear fx fy
  go_enter Try.func14, Try.ntmps14
  go_wp2_with (first | (go_at_call 20; refine (impl_IsFinite _ _).mono ?_; rintro e w' ⟨rfl, nf, rfl⟩) | fail)
  go_ret
  exact ⟨0, rfl, ⟨by decide, by rw [val32, if_pos (by decide)]⟩, _, rfl⟩

theorem spec_Wide_nan (Y X : Nat) (h : bin .sub .f64 (val .f64 Y) (val .f64 Y) = none ∨ (cmp .f64 (bin .sub .f64 (val .f64 Y) (val .f64 Y)) (some 0) = some .eq ∧ bin .sub .f64 (val .f64 X) (val .f64 X) = none)) (w : World) :
    Calls Try.prog 25 #[.float .f64 Y, .float .f64 X] w fun e w' => ∃ r, e = .returned (.float .f64 r) ∧ FR .f64 r none ∧ ∃ n, w' = w.drewN n := by
  rcases h with h | ⟨h, h'⟩
  · have HY : Hid (bin .sub .f64 (val .f64 Y) (val .f64 Y) = none) := h
    clear h
    go_enter Try.func25, Try.ntmps25
    go_wp2_with (first | ((refine wpList_fbin (o := ⟨some 16, _, _, _, _, _⟩) rfl _ _ _ _ _ rfl (by decide) _ _ _ rfl rfl ?_; intro a1 na1 ha1); have ta1 : (FloatKind.f64.format.order a1 0 != some .eq) = true := (by rw [order_cmp, ha1.val, vZERO, HY.out]; rfl)) | (go_at_call 21; refine (math_NaN _).mono ?_; rintro e w' ⟨rfl, rfl⟩) | fail)
    go_ret
    exact ⟨_, rfl, ⟨by decide, nan_val⟩, _, rfl⟩
  · have HY : Hid (cmp .f64 (bin .sub .f64 (val .f64 Y) (val .f64 Y)) (some 0) = some .eq) := h
    have HX : Hid (bin .sub .f64 (val .f64 X) (val .f64 X) = none) := h'
    clear h h'
    go_enter Try.func25, Try.ntmps25
    go_wp2_with (first | ((refine wpList_fbin (o := ⟨some 16, _, _, _, _, _⟩) rfl _ _ _ _ _ rfl (by decide) _ _ _ rfl rfl ?_; intro a1 na1 ha1); have ta1 : (FloatKind.f64.format.order a1 0 != some .eq) = false := (by rw [order_cmp, ha1.val, vZERO, HY.out]; rfl)) | ((refine wpList_fbin (o := ⟨some 21, _, _, _, _, _⟩) rfl _ _ _ _ _ rfl (by decide) _ _ _ rfl rfl ?_; intro a2 na2 ha2); have ta2 : (FloatKind.f64.format.order a2 0 != some .eq) = true := (by rw [order_cmp, ha2.val, vZERO, HX.out]; rfl)) | (go_at_call 21; refine (math_NaN _).mono ?_; rintro e w' ⟨rfl, rfl⟩) | fail)
    go_ret
    exact ⟨_, rfl, ⟨by decide, nan_val⟩, _, rfl⟩

theorem spec_Wide_zero (Y X : Nat) (hy : cmp .f64 (bin .sub .f64 (val .f64 Y) (val .f64 Y)) (some 0) = some .eq) (hx : cmp .f64 (bin .sub .f64 (val .f64 X) (val .f64 X)) (some 0) = some .eq) (t0 : (FloatKind.f64.format.order X 0 == some .eq) = true) (t0y : (FloatKind.f64.format.order Y 0 == some .eq) = true) (w : World) :
    Calls Try.prog 25 #[.float .f64 Y, .float .f64 X] w fun e w' => ∃ r, e = .returned (.float .f64 r) ∧ FR .f64 r (some 0) ∧ ∃ n, w' = w.drewN n := by
  have HY : Hid (cmp .f64 (bin .sub .f64 (val .f64 Y) (val .f64 Y)) (some 0) = some .eq) := hy
  have HX : Hid (cmp .f64 (bin .sub .f64 (val .f64 X) (val .f64 X)) (some 0) = some .eq) := hx
  clear hy hx
  go_enter Try.func25, Try.ntmps25
  go_wp2_with (first | ((refine wpList_fbin (o := ⟨some 16, _, _, _, _, _⟩) rfl _ _ _ _ _ rfl (by decide) _ _ _ rfl rfl ?_; intro a1 na1 ha1); have ta1 : (FloatKind.f64.format.order a1 0 != some .eq) = false := (by rw [order_cmp, ha1.val, vZERO, HY.out]; rfl)) | ((refine wpList_fbin (o := ⟨some 21, _, _, _, _, _⟩) rfl _ _ _ _ _ rfl (by decide) _ _ _ rfl rfl ?_; intro a2 na2 ha2); have ta2 : (FloatKind.f64.format.order a2 0 != some .eq) = false := (by rw [order_cmp, ha2.val, vZERO, HX.out]; rfl)) | fail)
  go_ret
  exact ⟨_, rfl, ⟨by decide, vZERO⟩, _, rfl⟩

/-- Out of what the wide function gives: what the reference gives. -/
theorem spec_Angle_of (y x : Nat) (V : Option Nat) (hok : NarOk V) (h : ∀ p q w, FR .f64 p (wid (val .f32 y)) → FR .f64 q (wid (val .f32 x)) → Calls Try.prog 25 #[.float .f64 p, .float .f64 q] w fun e w' => ∃ r, e = .returned (.float .f64 r) ∧ FR .f64 r V ∧ ∃ n, w' = w.drewN n) (w : World) :
    Calls Try.prog 13 #[.float .f32 y, .float .f32 x] w fun e w' => ∃ r, e = .returned (.float .f32 r) ∧ FR .f32 r (nar V) ∧ ∃ n, w' = w.drewN n := by
  have H : Hid (∀ p q w, FR .f64 p (wid (val .f32 y)) → FR .f64 q (wid (val .f32 x)) → Calls Try.prog 25 #[.float .f64 p, .float .f64 q] w fun e w' => ∃ r, e = .returned (.float .f64 r) ∧ FR .f64 r V ∧ ∃ n, w' = w.drewN n) := h
  have HOK : Hid (NarOk V) := hok
  clear h hok
  go_enter Try.func13, Try.ntmps13
  go_wp2_with (first | (go_at_call 19; go_in) | (refine wpList_widen (o := ⟨some 6, _, _, _, _, _⟩) rfl _ _ _ rfl _ rfl (by kernel_rfl) (by kernel_rfl) ?_; intro p np hp) | (refine wpList_widen (o := ⟨some 8, _, _, _, _, _⟩) rfl _ _ _ rfl _ rfl (by kernel_rfl) (by kernel_rfl) ?_; intro q nq hq) | (go_at_call 25; refine (H.out _ _ _ hp hq).mono ?_; rintro e w' ⟨s, rfl, hs, ns, rfl⟩) | (go_at_call 24; refine (spec_l01Narrow _ (by rw [hs.val]; exact HOK.out) _).mono ?_; rintro e w' ⟨r, rfl, hr, nr, rfl⟩) | fail)
  go_ret
  refine ⟨r, rfl, ?_, _, rfl⟩
  rw [hs.val] at hr
  exact hr

theorem angle_plain (y x : Nat) {zx xn zy yn : Bool} (fx : FinF x zx xn) (fy : FinF y zy yn) (hz : ¬ (zx = true ∧ zy = true)) :
    NarOk (angV (decide (W x % 9223372036854775808 < W y % 9223372036854775808)) xn yn (W y % 9223372036854775808) (W x % 9223372036854775808)) ∧ (∀ w, Calls Try.prog 14 #[.float .f32 y, .float .f32 x] w fun e w' => ∃ r, e = .returned (.float .f32 r) ∧ FR .f32 r (nar (angV (decide (W x % 9223372036854775808 < W y % 9223372036854775808)) xn yn (W y % 9223372036854775808) (W x % 9223372036854775808))) ∧ ∃ n, w' = w.drewN n) ∧
    (∀ w, W y < 18446744073709551616 → W x < 18446744073709551616 → Calls Try.prog 25 #[.float .f64 (W y), .float .f64 (W x)] w fun e w' => ∃ r, e = .returned (.float .f64 r) ∧ FR .f64 r (angV (decide (W x % 9223372036854775808 < W y % 9223372036854775808)) xn yn (W y % 9223372036854775808) (W x % 9223372036854775808)) ∧ ∃ n, w' = w.drewN n) := by
  have hok : NarOk (angV (decide (W x % 9223372036854775808 < W y % 9223372036854775808)) xn yn (W y % 9223372036854775808) (W x % 9223372036854775808)) := by
    refine angV_ok xn yn _ _ fy.lt fx.lt ?_
    have h1 := fx.z
    have h2 := fy.z
    rcases Nat.eq_zero_or_pos (W y % 9223372036854775808) with h | h
    · rcases Nat.eq_zero_or_pos (W x % 9223372036854775808) with h' | h'
      · exact absurd ⟨h1.2 h', h2.2 h⟩ hz
      · exact .inr h'
    · exact .inl h
  have t1 : (FloatKind.f64.format.order (W y % 9223372036854775808) (W x % 9223372036854775808) == some .gt) = decide (W x % 9223372036854775808 < W y % 9223372036854775808) := gt_pos (Nat.le_of_lt fy.lt) (Nat.le_of_lt fx.lt)
  have hzg : zx = true → decide (W x % 9223372036854775808 < W y % 9223372036854775808) = true := by
    intro h
    have h0 := fx.z.1 h
    rw [h0]
    refine decide_eq_true ?_
    rcases Nat.eq_zero_or_pos (W y % 9223372036854775808) with h' | h'
    · exact absurd ⟨h, fy.z.2 h'⟩ hz
    · exact h'
  generalize decide (W x % 9223372036854775808 < W y % 9223372036854775808) = g at *
  refine ⟨hok, fun w => ?_, fun w lY lX => ?_⟩
  · cases zx
    · cases g <;> cases xn <;> cases yn
      · exact impl_Angle_0000 y x fx.fin fy.fin fx.v fy.v fx.t0 t1 fx.t2 fy.t2 fy.va fx.va hok w
      · exact impl_Angle_0010 y x fx.fin fy.fin fx.v fy.v fx.t0 t1 fx.t2 fy.t2 fy.va fx.va hok w
      · exact impl_Angle_0100 y x fx.fin fy.fin fx.v fy.v fx.t0 t1 fx.t2 fy.t2 fy.va fx.va hok w
      · exact impl_Angle_0110 y x fx.fin fy.fin fx.v fy.v fx.t0 t1 fx.t2 fy.t2 fy.va fx.va hok w
      · exact impl_Angle_1000 y x fx.fin fy.fin fx.v fy.v fx.t0 t1 fx.t2 fy.t2 fy.va fx.va hok w
      · exact impl_Angle_1010 y x fx.fin fy.fin fx.v fy.v fx.t0 t1 fx.t2 fy.t2 fy.va fx.va hok w
      · exact impl_Angle_1100 y x fx.fin fy.fin fx.v fy.v fx.t0 t1 fx.t2 fy.t2 fy.va fx.va hok w
      · exact impl_Angle_1110 y x fx.fin fy.fin fx.v fy.v fx.t0 t1 fx.t2 fy.t2 fy.va fx.va hok w
    · obtain rfl : g = true := hzg rfl
      obtain rfl : xn = false := fx.zn rfl
      obtain rfl : zy = false := by cases zy; rfl; exact absurd ⟨rfl, rfl⟩ hz
      cases yn
      · exact impl_Angle_1001 y x fx.fin fy.fin fx.v fy.v fx.t0 fy.t0 t1 fx.t2 fy.t2 fy.va fx.va hok w
      · exact impl_Angle_1011 y x fx.fin fy.fin fx.v fy.v fx.t0 fy.t0 t1 fx.t2 fy.t2 fy.va fx.va hok w
  · cases zx
    · cases g <;> cases xn <;> cases yn
      · exact spec_Angle_0000 (W y) (W x) lY lX fy.sub fx.sub fx.s0 t1 fx.s2 fy.s2 fy.va fx.va w
      · exact spec_Angle_0010 (W y) (W x) lY lX fy.sub fx.sub fx.s0 t1 fx.s2 fy.s2 fy.va fx.va w
      · exact spec_Angle_0100 (W y) (W x) lY lX fy.sub fx.sub fx.s0 t1 fx.s2 fy.s2 fy.va fx.va w
      · exact spec_Angle_0110 (W y) (W x) lY lX fy.sub fx.sub fx.s0 t1 fx.s2 fy.s2 fy.va fx.va w
      · exact spec_Angle_1000 (W y) (W x) lY lX fy.sub fx.sub fx.s0 t1 fx.s2 fy.s2 fy.va fx.va w
      · exact spec_Angle_1010 (W y) (W x) lY lX fy.sub fx.sub fx.s0 t1 fx.s2 fy.s2 fy.va fx.va w
      · exact spec_Angle_1100 (W y) (W x) lY lX fy.sub fx.sub fx.s0 t1 fx.s2 fy.s2 fy.va fx.va w
      · exact spec_Angle_1110 (W y) (W x) lY lX fy.sub fx.sub fx.s0 t1 fx.s2 fy.s2 fy.va fx.va w
    · obtain rfl : g = true := hzg rfl
      obtain rfl : xn = false := fx.zn rfl
      obtain rfl : zy = false := by cases zy; rfl; exact absurd ⟨rfl, rfl⟩ hz
      cases yn
      · exact spec_Angle_1001 (W y) (W x) lY lX fy.sub fx.sub fx.s0 fy.s0 t1 fx.s2 fy.s2 fy.va fx.va w
      · exact spec_Angle_1011 (W y) (W x) lY lX fy.sub fx.sub fx.s0 fy.s0 t1 fx.s2 fy.s2 fy.va fx.va w

theorem fnExactAngleTurns_of (a0 a1 : Nat) (V : Option Nat) (hs : ∀ w, Calls Try.prog 13 #[.float .f32 a0, .float .f32 a1] w fun e w' => ∃ r, e = .returned (.float .f32 r) ∧ FR .f32 r V ∧ ∃ n, w' = w.drewN n)
    (hi : ∀ w, Calls Try.prog 14 #[.float .f32 a0, .float .f32 a1] w fun e w' => ∃ r, e = .returned (.float .f32 r) ∧ FR .f32 r V ∧ ∃ n, w' = w.drewN n) (w : World) :
    Calls Try.prog 5 #[.float .f32 a0, .float .f32 a1] w fun e w' => e = .returned (.bool true) ∧ Below w.heap.size w w' := by
  have HS : Hid (∀ w, Calls Try.prog 13 #[.float .f32 a0, .float .f32 a1] w fun e w' => ∃ r, e = .returned (.float .f32 r) ∧ FR .f32 r V ∧ ∃ n, w' = w.drewN n) := hs
  have HI : Hid (∀ w, Calls Try.prog 14 #[.float .f32 a0, .float .f32 a1] w fun e w' => ∃ r, e = .returned (.float .f32 r) ∧ FR .f32 r V ∧ ∃ n, w' = w.drewN n) := hi
  clear hs hi
  go_enter Try.func5, Try.ntmps5
  go_wp2_with (first | (go_at_call 13; refine (HS.out _).mono ?_; rintro e w' ⟨r1, rfl, hr1, n1, rfl⟩) | (go_at_call 14; refine (HI.out _).mono ?_; rintro e w' ⟨r2, rfl, hr2, n2, rfl⟩) | (refine wpList_widen (o := ⟨some 14, _, _, _, _, _⟩) rfl _ _ _ rfl _ rfl (by kernel_rfl) (by kernel_rfl) ?_; intro q2 nq2 hq2; rw [hr2.val] at hq2) | (refine wpList_widen (o := ⟨some 16, _, _, _, _, _⟩) rfl _ _ _ rfl _ rfl (by kernel_rfl) (by kernel_rfl) ?_; intro q1 nq1 hq1; rw [hr1.val] at hq1) | (go_at_call 9; refine (sameFloat_FR _ _ _ (by assumption) (by assumption) _).mono ?_; rintro e w' ⟨rfl, n, rfl⟩) | fail)
  go_ret
  exact ⟨rfl, below_drewN2 _ _⟩

theorem fnExactAngleTurns_walk (w : World) (a0 : Nat) (w0 : a0 < 2 ^ FloatKind.f32.format.width) (a1 : Nat) (w1 : a1 < 2 ^ FloatKind.f32.format.width) :
    Calls Try.prog 5 #[.float .f32 a0, .float .f32 a1] w fun e w' => e = .returned (.bool true) ∧ Below w.heap.size w w' := by
  cases hx : isFin (val .f32 a1)
  · refine fnExactAngleTurns_of a0 a1 none (fun w => ?_) (fun w => impl_Angle_nan a0 a1 (.inl hx) w) w
    refine spec_Angle_of a0 a1 none NarOk.none (fun p q w hp hq => spec_Wide_nan p q ?_ w) w
    cases hy : isFin (val .f32 a0)
    · exact .inl (notFin hy hp)
    · obtain ⟨_, _, fy⟩ := finF hy w
      have e := (FR_wid fy.v hp).2
      exact .inr ⟨by rw [e]; exact fy.sub, notFin hx hq⟩
  · cases hy : isFin (val .f32 a0)
    · refine fnExactAngleTurns_of a0 a1 none (fun w => ?_) (fun w => impl_Angle_nan a0 a1 (.inr ⟨hx, hy⟩) w) w
      exact spec_Angle_of a0 a1 none NarOk.none (fun p q w hp hq => spec_Wide_nan p q (.inl (notFin hy hp)) w) w
    · obtain ⟨zx, xn, fx⟩ := finF hx w
      obtain ⟨zy, yn, fy⟩ := finF hy w
      by_cases hz : zx = true ∧ zy = true
      · obtain ⟨rfl, rfl⟩ := hz
        refine fnExactAngleTurns_of a0 a1 (some 0) (fun w => ?_) (fun w => impl_Angle_zero a0 a1 fx fy w) w
        have h := spec_Angle_of a0 a1 (some 0) nar_zero.1 (fun p q w hp hq => by
          rw [(FR_wid fy.v hp).2, (FR_wid fx.v hq).2]
          exact spec_Wide_zero _ _ fy.sub fx.sub fx.s0 fy.s0 w) w
        rw [nar_zero.2] at h
        exact h
      · obtain ⟨hok, hi, hs⟩ := angle_plain a0 a1 fx fy hz
        refine fnExactAngleTurns_of a0 a1 _ (fun w => ?_) hi w
        refine spec_Angle_of a0 a1 _ hok (fun p q w hp hq => ?_) w
        have lp : p < 18446744073709551616 := hp.lt
        have lq : q < 18446744073709551616 := hq.lt
        rw [(FR_wid fy.v hp).2] at lp ⊢
        rw [(FR_wid fx.v hq).2] at lq ⊢
        exact hs w lp lq
end Go.Proofs.Ytilaempppmhohaa
