/-
  The proof's texts, one behind the other: XMmovel XOpen XMopen.
-/
import Derived.Test.YtlendjpmblapkabMLExactMoveMeshb
import Derived.Deep.RegionHeld3
import Derived.Laws.Cover2
import Derived.ProofKit
import Derived.WalkKit
import Derived.OpenShut
import Derived.Lib.SmallJoins
import Derived.Deep.Slices
import Derived.ChangeSame
namespace Go.Proofs.Ytlendjpmblapkab
open Fl Go.RowKit Go.Proofs.YtlendjpmblapkabW.PrintWords Go.Proofs.YtlendjpmblapkabW.PrintLast Go.Proofs.YtlendjpmblapkabW.PrintMore Go.Proofs.Ytlendjpmblapkab.PMesh Msh
set_option linter.unusedVariables false
set_option linter.unusedSimpArgs false

set_option maxHeartbeats 8000000 in
set_option maxRecDepth 100000 in
theorem fnExactMoveMesh_walk (w : World) (A0 : Option Addr) (c0 : Nat) (L0 : List S38) (B0 : Option Addr) (e0 : Nat) (T0 : List (List Int)) (hL0 : Kd.C k38 w A0 L0.length L0) (hc0 : L0.length ≤ c0) (hT0 : Kd.C (Kd.slice 2 (Kd.int .i64)) w B0 T0.length T0) (he0 : T0.length ≤ e0) (ok0 : MeshOk L0 T0) (v0 v1 v2 : Nat) (wv0 : v0 < 2 ^ 32) (wv1 : v1 < 2 ^ 32) (wv2 : v2 < 2 ^ 32) :
    Calls Try.prog 4 #[.agg #[.slice A0 L0.length c0, .slice B0 T0.length e0], .agg #[.float .f32 v0, .float .f32 v1, .float .f32 v2]] w fun e w' => e = .returned (.bool true) ∧ Below w.heap.size w w' := by
  have came0 : CameM w A0 c0 L0 B0 e0 T0 := ⟨hL0, hc0, hT0, he0⟩
  have K0 := Lib.hid (show Below w.heap.size w ((w.alloc (.cells #[.slice A0 L0.length c0, .slice B0 T0.length e0] 25)).alloc (.cells #[.float .f32 v0, .float .f32 v1, .float .f32 v2] 38)) from below_alloc (below_alloc (Below.refl w.heap.size w) (.cells #[.slice A0 L0.length c0, .slice B0 T0.length e0] 25)) (.cells #[.float .f32 v0, .float .f32 v1, .float .f32 v2] 38))
  have hsz1 : (w.alloc (.cells #[.slice A0 L0.length c0, .slice B0 T0.length e0] 25)).heap.size = w.heap.size + 1 := by simp
  have hbx0 := BoxAt.new w 25 (.slice A0 L0.length c0) (.slice B0 T0.length e0)
  replace hbx0 := hbx0.below (below_alloc (Below.refl _ _) (.cells #[.float .f32 v0, .float .f32 v1, .float .f32 v2] 38))
  have hbx1 := BoxT.new (w.alloc (.cells #[.slice A0 L0.length c0, .slice B0 T0.length e0] 25)) 38 v0 v1 v2
  rw [hsz1] at hbx1
  have BA0_0 := Lib.hid hbx0
  have BV_0 := Lib.hid hbx1
  have q0 := BA0_0.out.lt; have q1 := BV_0.out.lt
  clear hbx0 hbx1 hsz1
  obtain ⟨r0, hsm0, hr0, hsz0⟩ := sz_step w w A0 c0 L0 B0 e0 T0 came0 ok0 1048576 (by omega) (by omega)
  have HSZ0 := Lib.hid hsz0
  by_cases hneg0 : r0 < 0
  · clear hsz0 hsm0 hL0 hc0 hT0 he0 came0
    have ba0_c0 := BA0_0.out.c0
    have ba0_d0 := BA0_0.out.c1
    have bv_c0 := BV_0.out.c0
    have bv_d0 := BV_0.out.c1
    have bv_e0 := BV_0.out.c2
    go_enter Try.func4, Try.ntmps4
    go_wp2_with (first
      | (go_at_call 9; refine (HSZ0.out _ K0.out).mono ?_; rintro E w1 ⟨rfl, hb⟩; have z1 := hb.size; have BA0_1 := Lib.hid (BA0_0.out.below hb); have ba0_c1 := BA0_1.out.c0; have ba0_d1 := BA0_1.out.c1; (try clear ba0_c0 ba0_d0); have BV_1 := Lib.hid (BV_0.out.below hb); have bv_c1 := BV_1.out.c0; have bv_d1 := BV_1.out.c1; have bv_e1 := BV_1.out.c2; (try clear bv_c0 bv_d0 bv_e0); have K1 := Lib.hid (below_then K0.out hb K0.out.size); clear hb; skip)
      | fail)
    go_ret
    exact ⟨rfl, K1.out⟩
  · have hs0 := hsm0 (by omega)
    obtain ⟨P0, hP0⟩ : ∃ P, P = L0.map toV := ⟨_, rfl⟩
    have hPl0 : P0.length = L0.length := by rw [hP0, List.length_map]
    have hb0 : P0.length ≤ 1048576 := by rw [hPl0]; exact hs0.1
    have hok0 : ∀ x ∈ P0, okV x := by rw [hP0]; exact map_ok ok0.fl
    have HSI0 := Lib.hid (simP_self hok0)
    have HTO0 := Lib.hid (to_step w A0 c0 L0 B0 e0 T0 came0 hs0 P0 hP0)
    have HA0 : Hid (T0.length ≤ 1048576) := Lib.hid hs0.2.1
    have HB0 : Hid (∀ t ∈ T0, t.length ≤ 1048576) := Lib.hid hs0.2.2
    have htot0 := tot_le T0 hs0.2.2; have htm0 : T0.length ≤ 1048576 := hs0.2.1
    have hsmall := move_small P0 T0 v0 v1 v2
    obtain ⟨ans, hans⟩ : ∃ ans, ans = moveR P0 T0 v0 v1 v2 := ⟨_, rfl⟩
    have h1 : ∀ (A0 : Option Addr) (c0 : Nat) (B0 : Option Addr) (e0 : Nat) (W : World), ReadM W A0 c0 P0 B0 e0 T0 → Calls Try.prog 16 #[.agg #[.slice A0 P0.length c0, .slice B0 T0.length e0], .agg #[.float .f32 v0, .float .f32 v1, .float .f32 v2]] W (AnsRs W ans.1 ans.2.1 ans.2.2) := fun A0 c0 B0 e0 W p0 => by rw [hans]; exact (spec_MoveMesh A0 c0 P0 B0 e0 T0 v0 v1 v2 W p0.1 p0.2.1 p0.2.2.1 p0.2.2.2 hok0 wv0 wv1 wv2).mono (fun E w' h => h.r)
    have h2 : ∀ (A0 : Option Addr) (c0 : Nat) (B0 : Option Addr) (e0 : Nat) (W : World), ReadM W A0 c0 P0 B0 e0 T0 → Calls Try.prog 18 #[.agg #[.slice A0 P0.length c0, .slice B0 T0.length e0], .agg #[.float .f32 v0, .float .f32 v1, .float .f32 v2]] W (AnsMs W ans.1 ans.2.1 ans.2.2) := fun A0 c0 B0 e0 W p0 => by rw [hans]; exact (impl_MoveMesh A0 c0 P0 B0 e0 T0 v0 v1 v2 W p0.1 p0.2.1 p0.2.2.1 p0.2.2.2 hok0 wv0 wv1 wv2)
    rw [← hans] at hsmall
    obtain ⟨P', R, b⟩ := ans
    dsimp only at h1 h2 hsmall
    have H1 := Lib.hid h1; have H2 := Lib.hid h2
    have hp1 := hsmall.1; have HR1 := Lib.hid hsmall.2.1; have HR2 := Lib.hid hsmall.2.2
    have htotR := tot_le R hsmall.2.2; have htmR := hsmall.2.1
    have hk0 : ¬ (1 + 3 * (P0.length : Int) + (tot T0 : Int)) < 0 := by omega
    have hkR : ¬ (1 + 3 * (P'.length : Int) + (tot R : Int)) < 0 := by omega
    clear h1 h2 hsmall hans htotR htmR hsz0 hsm0 hL0 hc0 hT0 he0 came0 hs0 hP0 hPl0 hok0 wv0 wv1 wv2
    have ba0_c0 := BA0_0.out.c0
    have ba0_d0 := BA0_0.out.c1
    have bv_c0 := BV_0.out.c0
    have bv_d0 := BV_0.out.c1
    have bv_e0 := BV_0.out.c2
    go_enter Try.func4, Try.ntmps4
    go_wp2_with (first
      | (go_at_call 9; refine (HSZ0.out _ K0.out).mono ?_; rintro E w1 ⟨rfl, hb⟩; have z1 := hb.size; have BA0_1 := Lib.hid (BA0_0.out.below hb); have ba0_c1 := BA0_1.out.c0; have ba0_d1 := BA0_1.out.c1; (try clear ba0_c0 ba0_d0); have BV_1 := Lib.hid (BV_0.out.below hb); have bv_c1 := BV_1.out.c0; have bv_d1 := BV_1.out.c1; have bv_e1 := BV_1.out.c2; (try clear bv_c0 bv_d0 bv_e0); have K1 := Lib.hid (below_then K0.out hb K0.out.size); clear hb; skip)
      | fail)
    have BA0_d := Lib.hid (show BoxAt w1.drew (w.heap.size) 25 (.slice A0 L0.length c0) (.slice B0 T0.length e0) from BA0_1.out.below (Below.drew (Below.refl _ _)))
    have BV_d := Lib.hid (show BoxT w1.drew (w.heap.size + 1) 38 v0 v1 v2 from BV_1.out.below (Below.drew (Below.refl _ _)))
    have Kd_ := Lib.hid (Below.drew K1.out); have hzd : w1.heap.size ≤ w1.drew.heap.size := Nat.le_refl _
    refine start_ (n := 11) (S := fun w' => w'.cell? ⟨w.heap.size, 0, none⟩ = some (.slice A0 L0.length c0) ∧ w'.cell? ⟨w.heap.size, 1, none⟩ = some (.slice B0 T0.length e0) ∧ w'.cell? ⟨w.heap.size + 1, 0, none⟩ = some (.float .f32 v0) ∧ w'.cell? ⟨w.heap.size + 1, 1, none⟩ = some (.float .f32 v1) ∧ w'.cell? ⟨w.heap.size + 1, 2, none⟩ = some (.float .f32 v2)) (ds := []) #[false, false, false, false, false, false, false, false, false, false, false] (by kernel_rfl) rfl rfl ⟨BA0_d.out.c0, BA0_d.out.c1, BV_d.out.c0, BV_d.out.c1, BV_d.out.c2⟩ (fun hHeld => ?_)
    generalize w1.drew = wd1 at BA0_d BV_d Kd_ hzd hHeld ⊢
    clear BA0_1 BV_1 K1 ba0_c1 ba0_d1 bv_c1 bv_d1 bv_e1
    refine take_ (i := 0) (N := (some 22)) (v := ?_) (a' := ?_) #[true, false, false, false, false, false, false, false, false, false, false] rfl rfl (by kernel_rfl) (fun _ _ _ h => h) (Or.inl ⟨by rfl, ?_⟩) hHeld ?_ ?_
    rotate_left
    · intro w' hSw
      (try dsimp only at hSw)
      go_simp
      with_reducible rfl
    rotate_left
    · simp only [Act.put, List.setIfInBounds_toArray, List.set_cons_zero, List.set_cons_succ, i64_w, i32_w]; rfl
    refine take_ (i := 2) (N := (some 24)) (v := ?_) (a' := ?_) #[true, false, true, false, false, false, false, false, false, false, false] rfl rfl (by kernel_rfl) (fun _ _ _ h => h) (Or.inl ⟨by rfl, ?_⟩) hHeld ?_ ?_
    rotate_left
    · intro w' hSw
      (try dsimp only at hSw)
      go_simp
      with_reducible rfl
    rotate_left
    · simp only [Act.put, List.setIfInBounds_toArray, List.set_cons_zero, List.set_cons_succ, i64_w, i32_w]; rfl
    refine join_ (σ := Option Addr × Nat × Option Addr × Nat × List S40 × Option Addr × Nat × Option Addr × Nat × Nat × Nat × Nat) 2 #[true, true, true, true, true, true, true, true, true, false, false] (fun s_ => [(23, .agg #[.slice s_.1 P0.length s_.2.1, .slice s_.2.2.1 T0.length s_.2.2.2.1]), (25, .agg #[.float .f32 v0, .float .f32 v1, .float .f32 v2]), (26, .tuple #[.agg #[.slice s_.2.2.2.2.2.1 P'.length s_.2.2.2.2.2.2.1, .slice s_.2.2.2.2.2.2.2.1 R.length s_.2.2.2.2.2.2.2.2.1], .bool b]), (21, .tuple #[.agg #[.slice s_.2.2.2.2.2.1 P'.length s_.2.2.2.2.2.2.1, .slice s_.2.2.2.2.2.2.2.1 R.length s_.2.2.2.2.2.2.2.2.1], .bool b]), (27, .agg #[.slice s_.2.2.2.2.2.1 P'.length s_.2.2.2.2.2.2.1, .slice s_.2.2.2.2.2.2.2.1 R.length s_.2.2.2.2.2.2.2.2.1]), (28, .bool b), (6, .pointer (some ⟨s_.2.2.2.2.2.2.2.2.2.2.2, 0, none⟩))]) (fun s_ w' => (BoxAt w' (w.heap.size) 25 (.slice A0 L0.length c0) (.slice B0 T0.length e0)) ∧ (BoxT w' (w.heap.size + 1) 38 v0 v1 v2) ∧ (Below w.heap.size w w') ∧ (w1.heap.size ≤ w'.heap.size) ∧ (ReadM w' s_.1 s_.2.1 P0 s_.2.2.1 s_.2.2.2.1 T0) ∧ (simP s_.2.2.2.2.1 P') ∧ (RefM w' s_.2.2.2.2.2.2.2.2.2.1 s_.2.2.2.2.2.2.2.2.2.2.1 (.slice s_.2.2.2.2.2.1 P'.length s_.2.2.2.2.2.2.1) (.slice s_.2.2.2.2.2.2.2.1 R.length s_.2.2.2.2.2.2.2.2.1) s_.2.2.2.2.1 R) ∧ (w1.heap.size ≤ s_.2.2.2.2.2.2.2.2.2.1) ∧ (s_.2.2.2.2.2.2.2.2.2.2.1 ≤ w'.heap.size) ∧ (BoxAt w' s_.2.2.2.2.2.2.2.2.2.2.2 29 (.slice none 0 0) (.slice none 0 0)) ∧ (w1.heap.size ≤ s_.2.2.2.2.2.2.2.2.2.2.2) ∧ (s_.2.2.2.2.2.2.2.2.2.2.2 < s_.2.2.2.2.2.2.2.2.2.1 ∨ s_.2.2.2.2.2.2.2.2.2.2.1 ≤ s_.2.2.2.2.2.2.2.2.2.2.2)) ?_ ?_
    rotate_left
    · intro hN_m0_v_f_g
      refine join_ (σ := Option Addr × Nat × Option Addr × Nat × List S40 × Option Addr × Nat × Option Addr × Nat × Nat × Nat) 3 #[true, true, true, true, true, true, true, true, false, false, false] (fun s_ => [(23, .agg #[.slice s_.1 P0.length s_.2.1, .slice s_.2.2.1 T0.length s_.2.2.2.1]), (25, .agg #[.float .f32 v0, .float .f32 v1, .float .f32 v2]), (26, .tuple #[.agg #[.slice s_.2.2.2.2.2.1 P'.length s_.2.2.2.2.2.2.1, .slice s_.2.2.2.2.2.2.2.1 R.length s_.2.2.2.2.2.2.2.2.1], .bool b]), (21, .tuple #[.agg #[.slice s_.2.2.2.2.2.1 P'.length s_.2.2.2.2.2.2.1, .slice s_.2.2.2.2.2.2.2.1 R.length s_.2.2.2.2.2.2.2.2.1], .bool b]), (27, .agg #[.slice s_.2.2.2.2.2.1 P'.length s_.2.2.2.2.2.2.1, .slice s_.2.2.2.2.2.2.2.1 R.length s_.2.2.2.2.2.2.2.2.1]), (28, .bool b)]) (fun s_ w' => (BoxAt w' (w.heap.size) 25 (.slice A0 L0.length c0) (.slice B0 T0.length e0)) ∧ (BoxT w' (w.heap.size + 1) 38 v0 v1 v2) ∧ (Below w.heap.size w w') ∧ (w1.heap.size ≤ w'.heap.size) ∧ (ReadM w' s_.1 s_.2.1 P0 s_.2.2.1 s_.2.2.2.1 T0) ∧ (simP s_.2.2.2.2.1 P') ∧ (RefM w' s_.2.2.2.2.2.2.2.2.2.1 s_.2.2.2.2.2.2.2.2.2.2 (.slice s_.2.2.2.2.2.1 P'.length s_.2.2.2.2.2.2.1) (.slice s_.2.2.2.2.2.2.2.1 R.length s_.2.2.2.2.2.2.2.2.1) s_.2.2.2.2.1 R) ∧ (w1.heap.size ≤ s_.2.2.2.2.2.2.2.2.2.1) ∧ (s_.2.2.2.2.2.2.2.2.2.2 ≤ w'.heap.size)) ?_ ?_
      · skip
        rintro ⟨Am0, cm0, Bm0, em0, PW, AW, cW, BW, eW, aW, bW⟩ wn ⟨f_BA0_, f_BV_, f_Kd_, f_hzd, f_d0, f_sx, f_rx, yaW, f_bx_⟩
        replace f_BA0_ : BoxAt wn (w.heap.size) 25 (.slice A0 L0.length c0) (.slice B0 T0.length e0) := f_BA0_
        replace f_BV_ : BoxT wn (w.heap.size + 1) 38 v0 v1 v2 := f_BV_
        replace f_Kd_ : Below w.heap.size w wn := f_Kd_
        replace f_hzd : w1.heap.size ≤ wn.heap.size := f_hzd
        replace f_d0 : ReadM wn Am0 cm0 P0 Bm0 em0 T0 := f_d0
        replace f_sx : simP PW P' := f_sx
        replace f_rx : RefM wn aW bW (.slice AW P'.length cW) (.slice BW R.length eW) PW R := f_rx
        replace yaW : w1.heap.size ≤ aW := yaW
        replace f_bx_ : bW ≤ wn.heap.size := f_bx_
        refine norm_ (a' := ?_) ?_ ?_
        rotate_left
        · simp only [putAll, Act.put, List.setIfInBounds_toArray, List.set_cons_zero, List.set_cons_succ]; rfl
        refine one_ (i := 8) (N := (some 6)) #[true, true, true, true, true, true, true, true, true, false, false] rfl rfl (by kernel_rfl) (by decide) (fun K hK => ?_)
        refine box_step ?hg (N := 6) ?hd (cs := #[.slice none 0 0, .slice none 0 0]) (t := 29) ?hr ?_; (case hd => rfl); (case hg => rfl); (case hr => first | (go_simp; done) | (go_simp; rfl))
        intro gW hg wz m_gx hb
        have m_gx_ : w1.heap.size ≤ gW := by rw [hg]; exact f_hzd
        have hgnew := hg
        have m_BA0_ := f_BA0_.below hb
        have m_BV_ := f_BV_.below hb
        have m_Kd_ := below_step f_Kd_ hb
        have m_hzd := Nat.le_trans f_hzd hb.size
        have m_d0 := f_d0.below hb
        have m_sx := f_sx
        have m_rx := f_rx.below hb
        have m_ax_ := yaW
        have m_bx_ := Nat.le_trans f_bx_ hb.size
        refine hK.out _ _ ⟨m_BA0_.c0, m_BA0_.c1, m_BV_.c0, m_BV_.c1, m_BV_.c2⟩ (fun hHeld => ?_)
        clear hK K
        refine norm_ (a' := ?_) ?_ ?_
        rotate_left
        · show Act.put _ (some 6) _ = _
          simp only [Act.put, List.setIfInBounds_toArray, List.set_cons_zero, List.set_cons_succ, i64_w, i32_w]
          rfl
        have m_fg := (Or.inr (by rw [hgnew]; exact f_bx_) : gW < aW ∨ bW ≤ gW)
        exact norm_ (by simp only [putAll, Act.put, List.setIfInBounds_toArray, List.set_cons_zero, List.set_cons_succ]) (hN_m0_v_f_g (Am0, cm0, Bm0, em0, PW, AW, cW, BW, eW, aW, bW, gW) _ ⟨m_BA0_, m_BV_, m_Kd_, m_hzd, m_d0, m_sx, m_rx, m_ax_, m_bx_, m_gx, m_gx_, m_fg⟩)
      intro hN_m0_v_f
      refine join_ (σ := Option Addr × Nat × Option Addr × Nat × Nat) 6 #[true, true, true, true, false, false, false, false, true, false, false] (fun s_ => [(23, .agg #[.slice s_.1 P0.length s_.2.1, .slice s_.2.2.1 T0.length s_.2.2.2.1]), (25, .agg #[.float .f32 v0, .float .f32 v1, .float .f32 v2]), (6, .pointer (some ⟨s_.2.2.2.2, 0, none⟩))]) (fun s_ w' => (BoxAt w' (w.heap.size) 25 (.slice A0 L0.length c0) (.slice B0 T0.length e0)) ∧ (BoxT w' (w.heap.size + 1) 38 v0 v1 v2) ∧ (Below w.heap.size w w') ∧ (w1.heap.size ≤ w'.heap.size) ∧ (ReadM w' s_.1 s_.2.1 P0 s_.2.2.1 s_.2.2.2.1 T0) ∧ (BoxAt w' s_.2.2.2.2 29 (.slice none 0 0) (.slice none 0 0)) ∧ (w1.heap.size ≤ s_.2.2.2.2)) ?_ ?_
      · skip
        rintro ⟨Am0, cm0, Bm0, em0, gW⟩ wn ⟨f_BA0_, f_BV_, f_Kd_, f_hzd, f_d0, f_gx, ygW⟩
        replace f_BA0_ : BoxAt wn (w.heap.size) 25 (.slice A0 L0.length c0) (.slice B0 T0.length e0) := f_BA0_
        replace f_BV_ : BoxT wn (w.heap.size + 1) 38 v0 v1 v2 := f_BV_
        replace f_Kd_ : Below w.heap.size w wn := f_Kd_
        replace f_hzd : w1.heap.size ≤ wn.heap.size := f_hzd
        replace f_d0 : ReadM wn Am0 cm0 P0 Bm0 em0 T0 := f_d0
        replace f_gx : BoxAt wn gW 29 (.slice none 0 0) (.slice none 0 0) := f_gx
        replace ygW : w1.heap.size ≤ gW := ygW
        refine norm_ (a' := ?_) ?_ ?_
        rotate_left
        · simp only [putAll, Act.put, List.setIfInBounds_toArray, List.set_cons_zero, List.set_cons_succ]; rfl
        refine one_ (i := 4) (N := (some 26)) #[true, true, true, true, true, false, false, false, true, false, false] rfl rfl (by kernel_rfl) (by decide) (fun K hK => ?_)
        refine goes_ Try.func16 (by kernel_rfl) rfl #[.agg #[.slice Am0 P0.length cm0, .slice Bm0 T0.length em0], .agg #[.float .f32 v0, .float .f32 v1, .float .f32 v2]] (by rfl) rfl rfl (by (try simp only [List.map_toArray, List.map_cons, List.map_nil]); first | done | rfl) ?_
        refine (H1.out _ _ _ _ _ f_d0).mono ?_
        rintro E wz ⟨PW, AW, cW, BW, eW, m_sx, rfl, m_rx, hb⟩
        refine ⟨_, rfl, ?_⟩
        obtain ⟨aW, hax⟩ : ∃ a, a = wn.heap.size := ⟨_, rfl⟩
        obtain ⟨bW, hbx⟩ : ∃ b, b = wz.heap.size := ⟨_, rfl⟩
        rw [← hax, ← hbx] at m_rx
        have m_ax_ : w1.heap.size ≤ aW := by rw [hax]; exact f_hzd
        have m_bx_ : bW ≤ wz.heap.size := by rw [hbx]; exact Nat.le_refl _
        have m_BA0_ := f_BA0_.below hb
        have m_BV_ := f_BV_.below hb
        have m_Kd_ := below_step f_Kd_ hb
        have m_hzd := Nat.le_trans f_hzd hb.size
        have m_d0 := f_d0.below hb
        have m_gx := f_gx.below hb
        have m_gx_ := ygW
        refine hK.out _ _ ⟨m_BA0_.c0, m_BA0_.c1, m_BV_.c0, m_BV_.c1, m_BV_.c2⟩ (fun hHeld => ?_)
        clear hK K
        refine norm_ (a' := ?_) ?_ ?_
        rotate_left
        · show Act.put _ (some 26) _ = _
          simp only [Act.put, List.setIfInBounds_toArray, List.set_cons_zero, List.set_cons_succ, i64_w, i32_w]
          rfl
        refine pure_ (i := 5) (N := (some 21)) (v := ?_) (a' := ?_) #[true, true, true, true, true, true, false, false, true, false, false] rfl rfl (by kernel_rfl) (fun _ _ _ h => h) (Or.inl ⟨by rfl, ?_⟩) ?_ ?_
        rotate_left
        · intro w'
          go_simp
          with_reducible rfl
        rotate_left
        · simp only [Act.put, List.setIfInBounds_toArray, List.set_cons_zero, List.set_cons_succ, i64_w, i32_w]; rfl
        refine pure_ (i := 6) (N := (some 27)) (v := ?_) (a' := ?_) #[true, true, true, true, true, true, true, false, true, false, false] rfl rfl (by kernel_rfl) (fun _ _ _ h => h) (Or.inl ⟨by rfl, ?_⟩) ?_ ?_
        rotate_left
        · intro w'
          go_simp
          with_reducible rfl
        rotate_left
        · simp only [Act.put, List.setIfInBounds_toArray, List.set_cons_zero, List.set_cons_succ, i64_w, i32_w]; rfl
        refine pure_ (i := 7) (N := (some 28)) (v := ?_) (a' := ?_) #[true, true, true, true, true, true, true, true, true, false, false] rfl rfl (by kernel_rfl) (fun _ _ _ h => h) (Or.inl ⟨by rfl, ?_⟩) ?_ ?_
        rotate_left
        · intro w'
          go_simp
          with_reducible rfl
        rotate_left
        · simp only [Act.put, List.setIfInBounds_toArray, List.set_cons_zero, List.set_cons_succ, i64_w, i32_w]; rfl
        have m_fg := (Or.inl (by rw [hax]; exact f_gx.lt) : gW < aW ∨ bW ≤ gW)
        exact norm_ (by simp only [putAll, Act.put, List.setIfInBounds_toArray, List.set_cons_zero, List.set_cons_succ]) (hN_m0_v_f_g (Am0, cm0, Bm0, em0, PW, AW, cW, BW, eW, aW, bW, gW) _ ⟨m_BA0_, m_BV_, m_Kd_, m_hzd, m_d0, m_sx, m_rx, m_ax_, m_bx_, m_gx, m_gx_, m_fg⟩)
      intro hN_m0_v_g
      refine join_ (σ := Option Addr × Nat × Option Addr × Nat) 7 #[true, true, true, true, false, false, false, false, false, false, false] (fun s_ => [(23, .agg #[.slice s_.1 P0.length s_.2.1, .slice s_.2.2.1 T0.length s_.2.2.2]), (25, .agg #[.float .f32 v0, .float .f32 v1, .float .f32 v2])]) (fun s_ w' => (BoxAt w' (w.heap.size) 25 (.slice A0 L0.length c0) (.slice B0 T0.length e0)) ∧ (BoxT w' (w.heap.size + 1) 38 v0 v1 v2) ∧ (Below w.heap.size w w') ∧ (w1.heap.size ≤ w'.heap.size) ∧ (ReadM w' s_.1 s_.2.1 P0 s_.2.2.1 s_.2.2.2 T0)) ?_ ?_
      · skip
        rintro ⟨Am0, cm0, Bm0, em0⟩ wn ⟨f_BA0_, f_BV_, f_Kd_, f_hzd, f_d0⟩
        replace f_BA0_ : BoxAt wn (w.heap.size) 25 (.slice A0 L0.length c0) (.slice B0 T0.length e0) := f_BA0_
        replace f_BV_ : BoxT wn (w.heap.size + 1) 38 v0 v1 v2 := f_BV_
        replace f_Kd_ : Below w.heap.size w wn := f_Kd_
        replace f_hzd : w1.heap.size ≤ wn.heap.size := f_hzd
        replace f_d0 : ReadM wn Am0 cm0 P0 Bm0 em0 T0 := f_d0
        refine norm_ (a' := ?_) ?_ ?_
        rotate_left
        · simp only [putAll, Act.put, List.setIfInBounds_toArray, List.set_cons_zero, List.set_cons_succ]; rfl
        refine two_ (i := 4) (j := 8) (Ni := (some 26)) (Nj := (some 6)) #[true, true, true, true, true, false, false, false, false, false, false] #[true, true, true, true, false, false, false, false, true, false, false] rfl rfl rfl rfl (by kernel_rfl) (by decide) (by decide) (fun K hK => ?_) (fun K hK => ?_) 
        · skip
          refine goes_ Try.func16 (by kernel_rfl) rfl #[.agg #[.slice Am0 P0.length cm0, .slice Bm0 T0.length em0], .agg #[.float .f32 v0, .float .f32 v1, .float .f32 v2]] (by rfl) rfl rfl (by (try simp only [List.map_toArray, List.map_cons, List.map_nil]); first | done | rfl) ?_
          refine (H1.out _ _ _ _ _ f_d0).mono ?_
          rintro E wz ⟨PW, AW, cW, BW, eW, m_sx, rfl, m_rx, hb⟩
          refine ⟨_, rfl, ?_⟩
          obtain ⟨aW, hax⟩ : ∃ a, a = wn.heap.size := ⟨_, rfl⟩
          obtain ⟨bW, hbx⟩ : ∃ b, b = wz.heap.size := ⟨_, rfl⟩
          rw [← hax, ← hbx] at m_rx
          have m_ax_ : w1.heap.size ≤ aW := by rw [hax]; exact f_hzd
          have m_bx_ : bW ≤ wz.heap.size := by rw [hbx]; exact Nat.le_refl _
          have m_BA0_ := f_BA0_.below hb
          have m_BV_ := f_BV_.below hb
          have m_Kd_ := below_step f_Kd_ hb
          have m_hzd := Nat.le_trans f_hzd hb.size
          have m_d0 := f_d0.below hb
          refine hK.out _ _ ⟨m_BA0_.c0, m_BA0_.c1, m_BV_.c0, m_BV_.c1, m_BV_.c2⟩ (fun hHeld => ?_)
          clear hK K
          refine norm_ (a' := ?_) ?_ ?_
          rotate_left
          · show Act.put _ (some 26) _ = _
            simp only [Act.put, List.setIfInBounds_toArray, List.set_cons_zero, List.set_cons_succ, i64_w, i32_w]
            rfl
          refine pure_ (i := 5) (N := (some 21)) (v := ?_) (a' := ?_) #[true, true, true, true, true, true, false, false, false, false, false] rfl rfl (by kernel_rfl) (fun _ _ _ h => h) (Or.inl ⟨by rfl, ?_⟩) ?_ ?_
          rotate_left
          · intro w'
            go_simp
            with_reducible rfl
          rotate_left
          · simp only [Act.put, List.setIfInBounds_toArray, List.set_cons_zero, List.set_cons_succ, i64_w, i32_w]; rfl
          refine pure_ (i := 6) (N := (some 27)) (v := ?_) (a' := ?_) #[true, true, true, true, true, true, true, false, false, false, false] rfl rfl (by kernel_rfl) (fun _ _ _ h => h) (Or.inl ⟨by rfl, ?_⟩) ?_ ?_
          rotate_left
          · intro w'
            go_simp
            with_reducible rfl
          rotate_left
          · simp only [Act.put, List.setIfInBounds_toArray, List.set_cons_zero, List.set_cons_succ, i64_w, i32_w]; rfl
          refine pure_ (i := 7) (N := (some 28)) (v := ?_) (a' := ?_) #[true, true, true, true, true, true, true, true, false, false, false] rfl rfl (by kernel_rfl) (fun _ _ _ h => h) (Or.inl ⟨by rfl, ?_⟩) ?_ ?_
          rotate_left
          · intro w'
            go_simp
            with_reducible rfl
          rotate_left
          · simp only [Act.put, List.setIfInBounds_toArray, List.set_cons_zero, List.set_cons_succ, i64_w, i32_w]; rfl
          exact norm_ (by simp only [putAll, Act.put, List.setIfInBounds_toArray, List.set_cons_zero, List.set_cons_succ]) (hN_m0_v_f (Am0, cm0, Bm0, em0, PW, AW, cW, BW, eW, aW, bW) _ ⟨m_BA0_, m_BV_, m_Kd_, m_hzd, m_d0, m_sx, m_rx, m_ax_, m_bx_⟩)
        · skip
          refine box_step ?hg (N := 6) ?hd (cs := #[.slice none 0 0, .slice none 0 0]) (t := 29) ?hr ?_; (case hd => rfl); (case hg => rfl); (case hr => first | (go_simp; done) | (go_simp; rfl))
          intro gW hg wz m_gx hb
          have m_gx_ : w1.heap.size ≤ gW := by rw [hg]; exact f_hzd
          have hgnew := hg
          have m_BA0_ := f_BA0_.below hb
          have m_BV_ := f_BV_.below hb
          have m_Kd_ := below_step f_Kd_ hb
          have m_hzd := Nat.le_trans f_hzd hb.size
          have m_d0 := f_d0.below hb
          refine hK.out _ _ ⟨m_BA0_.c0, m_BA0_.c1, m_BV_.c0, m_BV_.c1, m_BV_.c2⟩ (fun hHeld => ?_)
          clear hK K
          refine norm_ (a' := ?_) ?_ ?_
          rotate_left
          · show Act.put _ (some 6) _ = _
            simp only [Act.put, List.setIfInBounds_toArray, List.set_cons_zero, List.set_cons_succ, i64_w, i32_w]
            rfl
          exact norm_ (by simp only [putAll, Act.put, List.setIfInBounds_toArray, List.set_cons_zero, List.set_cons_succ]) (hN_m0_v_g (Am0, cm0, Bm0, em0, gW) _ ⟨m_BA0_, m_BV_, m_Kd_, m_hzd, m_d0, m_gx, m_gx_⟩)
      intro hN_m0_v
      refine join_ (σ := Option Addr × Nat × Option Addr × Nat × Nat) 7 #[true, true, true, false, false, false, false, false, true, false, false] (fun s_ => [(23, .agg #[.slice s_.1 P0.length s_.2.1, .slice s_.2.2.1 T0.length s_.2.2.2.1]), (6, .pointer (some ⟨s_.2.2.2.2, 0, none⟩))]) (fun s_ w' => (BoxAt w' (w.heap.size) 25 (.slice A0 L0.length c0) (.slice B0 T0.length e0)) ∧ (BoxT w' (w.heap.size + 1) 38 v0 v1 v2) ∧ (Below w.heap.size w w') ∧ (w1.heap.size ≤ w'.heap.size) ∧ (ReadM w' s_.1 s_.2.1 P0 s_.2.2.1 s_.2.2.2.1 T0) ∧ (BoxAt w' s_.2.2.2.2 29 (.slice none 0 0) (.slice none 0 0)) ∧ (w1.heap.size ≤ s_.2.2.2.2)) ?_ ?_
      · skip
        rintro ⟨Am0, cm0, Bm0, em0, gW⟩ wn ⟨f_BA0_, f_BV_, f_Kd_, f_hzd, f_d0, f_gx, ygW⟩
        replace f_BA0_ : BoxAt wn (w.heap.size) 25 (.slice A0 L0.length c0) (.slice B0 T0.length e0) := f_BA0_
        replace f_BV_ : BoxT wn (w.heap.size + 1) 38 v0 v1 v2 := f_BV_
        replace f_Kd_ : Below w.heap.size w wn := f_Kd_
        replace f_hzd : w1.heap.size ≤ wn.heap.size := f_hzd
        replace f_d0 : ReadM wn Am0 cm0 P0 Bm0 em0 T0 := f_d0
        replace f_gx : BoxAt wn gW 29 (.slice none 0 0) (.slice none 0 0) := f_gx
        replace ygW : w1.heap.size ≤ gW := ygW
        refine norm_ (a' := ?_) ?_ ?_
        rotate_left
        · simp only [putAll, Act.put, List.setIfInBounds_toArray, List.set_cons_zero, List.set_cons_succ]; rfl
        refine one_ (i := 3) (N := (some 25)) #[true, true, true, true, false, false, false, false, true, false, false] rfl rfl (by kernel_rfl) (by decide) (fun K hK => ?_)
        refine goes_ Try.func17 (by kernel_rfl) rfl #[.agg #[.float .f32 v0, .float .f32 v1, .float .f32 v2]] (by rfl) rfl rfl (by (try simp only [List.map_toArray, List.map_cons, List.map_nil]); first | done | rfl) ?_
        refine (laws_toVector v0 v1 v2 _).mono ?_
        rintro E wz ⟨rfl, hb⟩
        refine ⟨_, rfl, ?_⟩
        have m_BA0_ := f_BA0_.below hb
        have m_BV_ := f_BV_.below hb
        have m_Kd_ := below_step f_Kd_ hb
        have m_hzd := Nat.le_trans f_hzd hb.size
        have m_d0 := f_d0.below hb
        have m_gx := f_gx.below hb
        have m_gx_ := ygW
        refine hK.out _ _ ⟨m_BA0_.c0, m_BA0_.c1, m_BV_.c0, m_BV_.c1, m_BV_.c2⟩ (fun hHeld => ?_)
        clear hK K
        refine norm_ (a' := ?_) ?_ ?_
        rotate_left
        · show Act.put _ (some 25) _ = _
          simp only [Act.put, List.setIfInBounds_toArray, List.set_cons_zero, List.set_cons_succ, i64_w, i32_w]
          rfl
        exact norm_ (by simp only [putAll, Act.put, List.setIfInBounds_toArray, List.set_cons_zero, List.set_cons_succ]) (hN_m0_v_g (Am0, cm0, Bm0, em0, gW) _ ⟨m_BA0_, m_BV_, m_Kd_, m_hzd, m_d0, m_gx, m_gx_⟩)
      intro hN_m0_g
      refine join_ (σ := Option Addr × Nat × Option Addr × Nat) 8 #[true, true, true, false, false, false, false, false, false, false, false] (fun s_ => [(23, .agg #[.slice s_.1 P0.length s_.2.1, .slice s_.2.2.1 T0.length s_.2.2.2])]) (fun s_ w' => (BoxAt w' (w.heap.size) 25 (.slice A0 L0.length c0) (.slice B0 T0.length e0)) ∧ (BoxT w' (w.heap.size + 1) 38 v0 v1 v2) ∧ (Below w.heap.size w w') ∧ (w1.heap.size ≤ w'.heap.size) ∧ (ReadM w' s_.1 s_.2.1 P0 s_.2.2.1 s_.2.2.2 T0)) ?_ ?_
      · skip
        rintro ⟨Am0, cm0, Bm0, em0⟩ wn ⟨f_BA0_, f_BV_, f_Kd_, f_hzd, f_d0⟩
        replace f_BA0_ : BoxAt wn (w.heap.size) 25 (.slice A0 L0.length c0) (.slice B0 T0.length e0) := f_BA0_
        replace f_BV_ : BoxT wn (w.heap.size + 1) 38 v0 v1 v2 := f_BV_
        replace f_Kd_ : Below w.heap.size w wn := f_Kd_
        replace f_hzd : w1.heap.size ≤ wn.heap.size := f_hzd
        replace f_d0 : ReadM wn Am0 cm0 P0 Bm0 em0 T0 := f_d0
        refine norm_ (a' := ?_) ?_ ?_
        rotate_left
        · simp only [putAll, Act.put, List.setIfInBounds_toArray, List.set_cons_zero, List.set_cons_succ]; rfl
        refine two_ (i := 3) (j := 8) (Ni := (some 25)) (Nj := (some 6)) #[true, true, true, true, false, false, false, false, false, false, false] #[true, true, true, false, false, false, false, false, true, false, false] rfl rfl rfl rfl (by kernel_rfl) (by decide) (by decide) (fun K hK => ?_) (fun K hK => ?_) 
        · skip
          refine goes_ Try.func17 (by kernel_rfl) rfl #[.agg #[.float .f32 v0, .float .f32 v1, .float .f32 v2]] (by rfl) rfl rfl (by (try simp only [List.map_toArray, List.map_cons, List.map_nil]); first | done | rfl) ?_
          refine (laws_toVector v0 v1 v2 _).mono ?_
          rintro E wz ⟨rfl, hb⟩
          refine ⟨_, rfl, ?_⟩
          have m_BA0_ := f_BA0_.below hb
          have m_BV_ := f_BV_.below hb
          have m_Kd_ := below_step f_Kd_ hb
          have m_hzd := Nat.le_trans f_hzd hb.size
          have m_d0 := f_d0.below hb
          refine hK.out _ _ ⟨m_BA0_.c0, m_BA0_.c1, m_BV_.c0, m_BV_.c1, m_BV_.c2⟩ (fun hHeld => ?_)
          clear hK K
          refine norm_ (a' := ?_) ?_ ?_
          rotate_left
          · show Act.put _ (some 25) _ = _
            simp only [Act.put, List.setIfInBounds_toArray, List.set_cons_zero, List.set_cons_succ, i64_w, i32_w]
            rfl
          exact norm_ (by simp only [putAll, Act.put, List.setIfInBounds_toArray, List.set_cons_zero, List.set_cons_succ]) (hN_m0_v (Am0, cm0, Bm0, em0) _ ⟨m_BA0_, m_BV_, m_Kd_, m_hzd, m_d0⟩)
        · skip
          refine box_step ?hg (N := 6) ?hd (cs := #[.slice none 0 0, .slice none 0 0]) (t := 29) ?hr ?_; (case hd => rfl); (case hg => rfl); (case hr => first | (go_simp; done) | (go_simp; rfl))
          intro gW hg wz m_gx hb
          have m_gx_ : w1.heap.size ≤ gW := by rw [hg]; exact f_hzd
          have hgnew := hg
          have m_BA0_ := f_BA0_.below hb
          have m_BV_ := f_BV_.below hb
          have m_Kd_ := below_step f_Kd_ hb
          have m_hzd := Nat.le_trans f_hzd hb.size
          have m_d0 := f_d0.below hb
          refine hK.out _ _ ⟨m_BA0_.c0, m_BA0_.c1, m_BV_.c0, m_BV_.c1, m_BV_.c2⟩ (fun hHeld => ?_)
          clear hK K
          refine norm_ (a' := ?_) ?_ ?_
          rotate_left
          · show Act.put _ (some 6) _ = _
            simp only [Act.put, List.setIfInBounds_toArray, List.set_cons_zero, List.set_cons_succ, i64_w, i32_w]
            rfl
          exact norm_ (by simp only [putAll, Act.put, List.setIfInBounds_toArray, List.set_cons_zero, List.set_cons_succ]) (hN_m0_g (Am0, cm0, Bm0, em0, gW) _ ⟨m_BA0_, m_BV_, m_Kd_, m_hzd, m_d0, m_gx, m_gx_⟩)
      intro hN_m0
      refine join_ (σ := Nat) 8 #[true, false, true, false, false, false, false, false, true, false, false] (fun s_ => [(6, .pointer (some ⟨s_, 0, none⟩))]) (fun s_ w' => (BoxAt w' (w.heap.size) 25 (.slice A0 L0.length c0) (.slice B0 T0.length e0)) ∧ (BoxT w' (w.heap.size + 1) 38 v0 v1 v2) ∧ (Below w.heap.size w w') ∧ (w1.heap.size ≤ w'.heap.size) ∧ (BoxAt w' s_ 29 (.slice none 0 0) (.slice none 0 0)) ∧ (w1.heap.size ≤ s_)) ?_ ?_
      · skip
        rintro gW wn ⟨f_BA0_, f_BV_, f_Kd_, f_hzd, f_gx, ygW⟩
        replace f_BA0_ : BoxAt wn (w.heap.size) 25 (.slice A0 L0.length c0) (.slice B0 T0.length e0) := f_BA0_
        replace f_BV_ : BoxT wn (w.heap.size + 1) 38 v0 v1 v2 := f_BV_
        replace f_Kd_ : Below w.heap.size w wn := f_Kd_
        replace f_hzd : w1.heap.size ≤ wn.heap.size := f_hzd
        replace f_gx : BoxAt wn gW 29 (.slice none 0 0) (.slice none 0 0) := f_gx
        replace ygW : w1.heap.size ≤ gW := ygW
        refine norm_ (a' := ?_) ?_ ?_
        rotate_left
        · simp only [putAll, Act.put, List.setIfInBounds_toArray, List.set_cons_zero, List.set_cons_succ]; rfl
        refine one_ (i := 1) (N := (some 23)) #[true, true, true, false, false, false, false, false, true, false, false] rfl rfl (by kernel_rfl) (by decide) (fun K hK => ?_)
        refine goes_ Try.func11 (by kernel_rfl) rfl #[.agg #[.slice A0 L0.length c0, .slice B0 T0.length e0]] (by rfl) rfl rfl (by (try simp only [List.map_toArray, List.map_cons, List.map_nil]); first | done | rfl) ?_
        refine (HTO0.out _ f_Kd_).mono ?_
        rintro E wz ⟨Am0, cm0, Bm0, em0, rfl, hx, hb, hk⟩
        refine ⟨_, rfl, ?_⟩
        have m_d0 := hx.read
        clear hx hk
        have m_BA0_ := f_BA0_.below hb
        have m_BV_ := f_BV_.below hb
        have m_Kd_ := below_step f_Kd_ hb
        have m_hzd := Nat.le_trans f_hzd hb.size
        have m_gx := f_gx.below hb
        have m_gx_ := ygW
        refine hK.out _ _ ⟨m_BA0_.c0, m_BA0_.c1, m_BV_.c0, m_BV_.c1, m_BV_.c2⟩ (fun hHeld => ?_)
        clear hK K
        refine norm_ (a' := ?_) ?_ ?_
        rotate_left
        · show Act.put _ (some 23) _ = _
          simp only [Act.put, List.setIfInBounds_toArray, List.set_cons_zero, List.set_cons_succ, i64_w, i32_w]
          rfl
        exact norm_ (by simp only [putAll, Act.put, List.setIfInBounds_toArray, List.set_cons_zero, List.set_cons_succ]) (hN_m0_g (Am0, cm0, Bm0, em0, gW) _ ⟨m_BA0_, m_BV_, m_Kd_, m_hzd, m_d0, m_gx, m_gx_⟩)
      intro hN_g
      refine two_ (i := 1) (j := 8) (Ni := (some 23)) (Nj := (some 6)) #[true, true, true, false, false, false, false, false, false, false, false] #[true, false, true, false, false, false, false, false, true, false, false] rfl rfl rfl rfl (by kernel_rfl) (by decide) (by decide) (fun K hK => ?_) (fun K hK => ?_) 
      · skip
        refine goes_ Try.func11 (by kernel_rfl) rfl #[.agg #[.slice A0 L0.length c0, .slice B0 T0.length e0]] (by rfl) rfl rfl (by (try simp only [List.map_toArray, List.map_cons, List.map_nil]); first | done | rfl) ?_
        refine (HTO0.out _ Kd_.out).mono ?_
        rintro E wz ⟨Am0, cm0, Bm0, em0, rfl, hx, hb, hk⟩
        refine ⟨_, rfl, ?_⟩
        have m_d0 := hx.read
        clear hx hk
        have m_BA0_ := BA0_d.out.below hb
        have m_BV_ := BV_d.out.below hb
        have m_Kd_ := below_step Kd_.out hb
        have m_hzd := Nat.le_trans hzd hb.size
        refine hK.out _ _ ⟨m_BA0_.c0, m_BA0_.c1, m_BV_.c0, m_BV_.c1, m_BV_.c2⟩ (fun hHeld => ?_)
        clear hK K
        refine norm_ (a' := ?_) ?_ ?_
        rotate_left
        · show Act.put _ (some 23) _ = _
          simp only [Act.put, List.setIfInBounds_toArray, List.set_cons_zero, List.set_cons_succ, i64_w, i32_w]
          rfl
        exact norm_ (by simp only [putAll, Act.put, List.setIfInBounds_toArray, List.set_cons_zero, List.set_cons_succ]) (hN_m0 (Am0, cm0, Bm0, em0) _ ⟨m_BA0_, m_BV_, m_Kd_, m_hzd, m_d0⟩)
      · skip
        refine box_step ?hg (N := 6) ?hd (cs := #[.slice none 0 0, .slice none 0 0]) (t := 29) ?hr ?_; (case hd => rfl); (case hg => rfl); (case hr => first | (go_simp; done) | (go_simp; rfl))
        intro gW hg wz m_gx hb
        have m_gx_ : w1.heap.size ≤ gW := by rw [hg]; exact hzd
        have hgnew := hg
        have m_BA0_ := BA0_d.out.below hb
        have m_BV_ := BV_d.out.below hb
        have m_Kd_ := below_step Kd_.out hb
        have m_hzd := Nat.le_trans hzd hb.size
        refine hK.out _ _ ⟨m_BA0_.c0, m_BA0_.c1, m_BV_.c0, m_BV_.c1, m_BV_.c2⟩ (fun hHeld => ?_)
        clear hK K
        refine norm_ (a' := ?_) ?_ ?_
        rotate_left
        · show Act.put _ (some 6) _ = _
          simp only [Act.put, List.setIfInBounds_toArray, List.set_cons_zero, List.set_cons_succ, i64_w, i32_w]
          rfl
        exact norm_ (by simp only [putAll, Act.put, List.setIfInBounds_toArray, List.set_cons_zero, List.set_cons_succ]) (hN_g (gW) _ ⟨m_BA0_, m_BV_, m_Kd_, m_hzd, m_gx, m_gx_⟩)
    rintro ⟨Am0, cm0, Bm0, em0, PW, AW, cW, BW, eW, aW, bW, gW⟩ w2 ⟨f_BA0_, f_BV_, f_Kd_, f_hzd, f_d0, f_sx, f_rx, yaW, f_bx_, f_gx, ygW, yfW⟩
    replace f_BA0_ : BoxAt w2 (w.heap.size) 25 (.slice A0 L0.length c0) (.slice B0 T0.length e0) := f_BA0_
    replace f_BV_ : BoxT w2 (w.heap.size + 1) 38 v0 v1 v2 := f_BV_
    replace f_Kd_ : Below w.heap.size w w2 := f_Kd_
    replace f_hzd : w1.heap.size ≤ w2.heap.size := f_hzd
    replace f_d0 : ReadM w2 Am0 cm0 P0 Bm0 em0 T0 := f_d0
    replace f_sx : simP PW P' := f_sx
    replace f_rx : RefM w2 aW bW (.slice AW P'.length cW) (.slice BW R.length eW) PW R := f_rx
    replace yaW : w1.heap.size ≤ aW := yaW
    replace f_bx_ : bW ≤ w2.heap.size := f_bx_
    replace f_gx : BoxAt w2 gW 29 (.slice none 0 0) (.slice none 0 0) := f_gx
    replace ygW : w1.heap.size ≤ gW := ygW
    replace yfW : gW < aW ∨ bW ≤ gW := yfW
    refine norm_ (a' := ?_) ?_ ?_
    rotate_left
    · simp only [putAll, Act.put, List.setIfInBounds_toArray, List.set_cons_zero, List.set_cons_succ]; rfl
    have hg0 := f_gx.c0; have hg1 := f_gx.c1; have hgz0 := blk_frozen f_gx 0; have hgz1 := blk_frozen f_gx 1; have hgl := f_gx.lt
    have hk := kept_box (w := w2) (g := gW) (.slice AW P'.length cW) (.slice BW R.length eW)
    have hkb := blk_put (blk_put f_gx 0 (.slice AW P'.length cW) rfl) 1 (.slice BW R.length eW) rfl
    have hkK := below_set (j := 1) (v := (.slice BW R.length eW)) (below_set (j := 0) (v := (.slice AW P'.length cW)) f_Kd_ (by omega : w.heap.size ≤ gW)) (by omega : w.heap.size ≤ gW)
    have hBA0_ : BoxAt ((w2.setCell ⟨gW, 0, none⟩ (.slice AW P'.length cW)).setCell ⟨gW, 1, none⟩ (.slice BW R.length eW)) (w.heap.size) 25 (.slice A0 L0.length c0) (.slice B0 T0.length e0) := f_BA0_.kept hk (by omega)
    have hBV_ : BoxT ((w2.setCell ⟨gW, 0, none⟩ (.slice AW P'.length cW)).setCell ⟨gW, 1, none⟩ (.slice BW R.length eW)) (w.heap.size + 1) 38 v0 v1 v2 := f_BV_.kept hk (by omega)
    have hrx := f_rx.kept hk (by omega)
    refine one_ (i := 9) (N := none) #[true, true, true, true, true, true, true, true, true, true, false] rfl rfl (by kernel_rfl) (by decide) (fun K hK => ?_)
    refine skip_ (w1 := ?_) (by rfl) rfl ?_ ?_
    rotate_left
    · go_simp
      rfl
    refine hK.out _ _ ⟨BoxAt.c0 hBA0_, BoxAt.c1 hBA0_, BoxT.c0 hBV_, BoxT.c1 hBV_, BoxT.c2 hBV_⟩ (fun hHeld => ?_)
    clear hK K
    refine pure_ (i := 10) (N := (some 7)) (v := ?_) (a' := ?_) #[true, true, true, true, true, true, true, true, true, true, true] rfl rfl (by kernel_rfl) (fun _ _ _ h => h) (Or.inl ⟨by rfl, ?_⟩) ?_ ?_
    rotate_left
    · intro w'
      go_simp
      with_reducible rfl
    rotate_left
    · simp only [Act.put, List.setIfInBounds_toArray, List.set_cons_zero, List.set_cons_succ, i64_w, i32_w]; rfl
    refine done_ (by kernel_rfl) ?_
    obtain ⟨w3, hw⟩ : ∃ W, W = ((w2.setCell ⟨gW, 0, none⟩ (.slice AW P'.length cW)).setCell ⟨gW, 1, none⟩ (.slice BW R.length eW)) := ⟨_, rfl⟩
    have hszk : w3.heap.size = w2.heap.size := by rw [hw]; simp [World.setCell]
    rw [← hw] at hBA0_ hBV_ hrx hkb hkK ⊢
    have BA0_3 := Lib.hid hBA0_
    have ba0_c3 := BA0_3.out.c0
    have ba0_d3 := BA0_3.out.c1
    have BV_3 := Lib.hid hBV_
    have bv_c3 := BV_3.out.c0
    have bv_d3 := BV_3.out.c1
    have bv_e3 := BV_3.out.c2
    have W3 := Lib.hid hrx; have SW3 := Lib.hid f_sx
    have BW3 := Lib.hid (show BoxAt w3 gW 29 (.slice AW P'.length cW) (.slice BW R.length eW) from hkb); have bwc3 := BW3.out.c0; have bwd3 := BW3.out.c1
    have K3 := Lib.hid hkK; have z3 : w1.heap.size ≤ w3.heap.size := by rw [hszk]; exact f_hzd
    have y3 : gW < w3.heap.size := by rw [hszk]; exact hgl
    have y3b : bW ≤ w3.heap.size := by rw [hszk]; exact f_bx_
    clear hw hg0 hg1 hgz0 hgz1 hgl hk hkb hkK hrx hszk hHeld hBA0_ hBV_ f_BA0_ f_BV_ f_Kd_ f_hzd f_sx f_rx f_gx f_bx_ f_d0
    go_wp2_with (first
      | (go_at_call 11; refine (HTO0.out _ K3.out).mono ?_; rintro E w4 ⟨A4, c4, B4, e4, rfl, hx, hb, hkk⟩; have z4 := hb.size; have BA0_4 := Lib.hid (BA0_3.out.below hb); have ba0_c4 := BA0_4.out.c0; have ba0_d4 := BA0_4.out.c1; (try clear ba0_c3 ba0_d3); have BV_4 := Lib.hid (BV_3.out.below hb); have bv_c4 := BV_4.out.c0; have bv_d4 := BV_4.out.c1; have bv_e4 := BV_4.out.c2; (try clear bv_c3 bv_d3 bv_e3); have W4 := Lib.hid (W3.out.below hb); have BW4 := Lib.hid (BW3.out.below hb); have bwc4 := BW4.out.c0; have bwd4 := BW4.out.c1; (try clear bwc3 bwd3); have K4 := Lib.hid (below_then K3.out hb K3.out.size); have hv := below_alloc (Below.refl w4.heap.size w4) (.cells #[.slice A4 P0.length c4, .slice B4 T0.length e4] 29); have hn := BoxAt.new w4 29 (.slice A4 P0.length c4) (.slice B4 T0.length e4); have u0 := hn.c0; have u1 := hn.c1; have hBA0_ := BA0_4.out.below hv; have lba0_c := hBA0_.c0; have lba0_d := hBA0_.c1; have hBV_ := BV_4.out.below hv; have lbv_c := hBV_.c0; have lbv_d := hBV_.c1; have lbv_e := hBV_.c2; have hBW := BW4.out.below hv; have lbwc := hBW.c0; have lbwd := hBW.c1; obtain ⟨w5, hw5⟩ : ∃ w5, w5 = (w4.alloc (.cells #[.slice A4 P0.length c4, .slice B4 T0.length e4] 29)) := ⟨_, rfl⟩; have hv5 := hv; have hn5 := hn; rw [← hw5] at hv5 hn5; have z5 := hv5.size; have y5 := hn5.lt; have BA0_5 := Lib.hid (BA0_4.out.below hv5); have ba0_c5 := BA0_5.out.c0; have ba0_d5 := BA0_5.out.c1; (try clear ba0_c4 ba0_d4); have BV_5 := Lib.hid (BV_4.out.below hv5); have bv_c5 := BV_5.out.c0; have bv_d5 := BV_5.out.c1; have bv_e5 := BV_5.out.c2; (try clear bv_c4 bv_d4 bv_e4); have W5 := Lib.hid (W4.out.below hv5); have BW5 := Lib.hid (BW4.out.below hv5); have bwc5 := BW5.out.c0; have bwd5 := BW5.out.c1; (try clear bwc4 bwd4); have X0_5 := Lib.hid (hx.below hv5); have BX0_5 := Lib.hid hn5; have bx0_c5 := BX0_5.out.c0; have bx0_d5 := BX0_5.out.c1; have K5 := Lib.hid (below_then K4.out hv5 K4.out.size); have WW5 := Lib.hid hw5; clear hv hn hv5 hn5 hw5; clear hBA0_; clear hBV_; clear hBW; clear hb hx hkk; skip)
      | fail)
    rw [← WW5.out]
    (try clear u0 u1)
    (try clear lba0_c lba0_d)
    (try clear lbwc lbwd)
    (try clear lbx0_c lbx0_d)
    (try clear lbv_c lbv_d lbv_e)
    have BA0_d := Lib.hid (show BoxAt w5.drew (w.heap.size) 25 (.slice A0 L0.length c0) (.slice B0 T0.length e0) from BA0_5.out.below (Below.drew (Below.refl _ _)))
    have BV_d := Lib.hid (show BoxT w5.drew (w.heap.size + 1) 38 v0 v1 v2 from BV_5.out.below (Below.drew (Below.refl _ _)))
    have Wd := Lib.hid (show RefM w5.drew aW bW (.slice AW P'.length cW) (.slice BW R.length eW) PW R from W5.out.below (Below.drew (Below.refl _ _)))
    have BWd := Lib.hid (show BoxAt w5.drew gW 29 (.slice AW P'.length cW) (.slice BW R.length eW) from BW5.out.below (Below.drew (Below.refl _ _)))
    have X0_d := Lib.hid (show OwnM w5.drew w3.heap.size w4.heap.size (.slice A4 P0.length c4) (.slice B4 T0.length e4) P0 T0 from X0_5.out.below (Below.drew (Below.refl _ _)))
    have BX0_d := Lib.hid (show BoxAt w5.drew w4.heap.size 29 (.slice A4 P0.length c4) (.slice B4 T0.length e4) from BX0_5.out.below (Below.drew (Below.refl _ _)))
    have Kd_ := Lib.hid (Below.drew K5.out); have hzd : w5.heap.size ≤ w5.drew.heap.size := Nat.le_refl _
    refine start_ (n := 10) (S := fun w' => w'.cell? ⟨w.heap.size + 1, 0, none⟩ = some (.float .f32 v0) ∧ w'.cell? ⟨w.heap.size + 1, 1, none⟩ = some (.float .f32 v1) ∧ w'.cell? ⟨w.heap.size + 1, 2, none⟩ = some (.float .f32 v2) ∧ w'.cell? ⟨w4.heap.size, 0, none⟩ = some (.slice A4 P0.length c4) ∧ w'.cell? ⟨w4.heap.size, 1, none⟩ = some (.slice B4 T0.length e4)) (ds := []) #[false, false, false, false, false, false, false, false, false, false] (by kernel_rfl) rfl rfl ⟨BV_d.out.c0, BV_d.out.c1, BV_d.out.c2, BX0_d.out.c0, BX0_d.out.c1⟩ (fun hHeld => ?_)
    generalize w5.drew = wd5 at BA0_d BV_d Wd BWd X0_d BX0_d Kd_ hzd hHeld ⊢
    clear BA0_5 BV_5 W5 BW5 X0_5 BX0_5 K5 ba0_c5 ba0_d5 bv_c5 bv_d5 bv_e5 bwc5 bwd5 bx0_c5 bx0_d5
    refine take_ (i := 0) (N := (some 32)) (v := ?_) (a' := ?_) #[true, false, false, false, false, false, false, false, false, false] rfl rfl (by kernel_rfl) (fun _ _ _ h => h) (Or.inl ⟨by rfl, ?_⟩) hHeld ?_ ?_
    rotate_left
    · intro w' hSw
      (try dsimp only at hSw)
      go_simp
      with_reducible rfl
    rotate_left
    · simp only [Act.put, List.setIfInBounds_toArray, List.set_cons_zero, List.set_cons_succ, i64_w, i32_w]; rfl
    refine take_ (i := 1) (N := (some 33)) (v := ?_) (a' := ?_) #[true, true, false, false, false, false, false, false, false, false] rfl rfl (by kernel_rfl) (fun _ _ _ h => h) (Or.inl ⟨by rfl, ?_⟩) hHeld ?_ ?_
    rotate_left
    · intro w' hSw
      (try dsimp only at hSw)
      go_simp
      with_reducible rfl
    rotate_left
    · simp only [Act.put, List.setIfInBounds_toArray, List.set_cons_zero, List.set_cons_succ, i64_w, i32_w]; rfl
    refine join_ (σ := List S40 × Option Addr × Nat × Option Addr × Nat × Nat × Nat × Nat) 2 #[true, true, true, true, true, true, true, true, false, false] (fun s_ => [(34, .agg #[.float .f32 v0, .float .f32 v1, .float .f32 v2]), (35, .tuple #[.agg #[.slice s_.2.1 P'.length s_.2.2.1, .slice s_.2.2.2.1 R.length s_.2.2.2.2.1], .bool b]), (31, .tuple #[.agg #[.slice s_.2.1 P'.length s_.2.2.1, .slice s_.2.2.2.1 R.length s_.2.2.2.2.1], .bool b]), (36, .agg #[.slice s_.2.1 P'.length s_.2.2.1, .slice s_.2.2.2.1 R.length s_.2.2.2.2.1]), (37, .bool b), (9, .pointer (some ⟨s_.2.2.2.2.2.2.2, 0, none⟩))]) (fun s_ w' => (BoxAt w' (w.heap.size) 25 (.slice A0 L0.length c0) (.slice B0 T0.length e0)) ∧ (BoxT w' (w.heap.size + 1) 38 v0 v1 v2) ∧ (RefM w' aW bW (.slice AW P'.length cW) (.slice BW R.length eW) PW R) ∧ (BoxAt w' gW 29 (.slice AW P'.length cW) (.slice BW R.length eW)) ∧ (OwnM w' w3.heap.size w4.heap.size (.slice A4 P0.length c4) (.slice B4 T0.length e4) P0 T0) ∧ (BoxAt w' w4.heap.size 29 (.slice A4 P0.length c4) (.slice B4 T0.length e4)) ∧ (Below w.heap.size w w') ∧ (w5.heap.size ≤ w'.heap.size) ∧ (simP s_.1 P') ∧ (OwnM w' s_.2.2.2.2.2.1 s_.2.2.2.2.2.2.1 (.slice s_.2.1 P'.length s_.2.2.1) (.slice s_.2.2.2.1 R.length s_.2.2.2.2.1) s_.1 R) ∧ (w5.heap.size ≤ s_.2.2.2.2.2.1) ∧ (s_.2.2.2.2.2.2.1 ≤ w'.heap.size) ∧ (BoxAt w' s_.2.2.2.2.2.2.2 29 (.slice none 0 0) (.slice none 0 0)) ∧ (w5.heap.size ≤ s_.2.2.2.2.2.2.2) ∧ (s_.2.2.2.2.2.2.2 < s_.2.2.2.2.2.1 ∨ s_.2.2.2.2.2.2.1 ≤ s_.2.2.2.2.2.2.2)) ?_ ?_
    rotate_left
    · intro hN_v_f_g
      refine join_ (σ := List S40 × Option Addr × Nat × Option Addr × Nat × Nat × Nat) 3 #[true, true, true, true, true, true, true, false, false, false] (fun s_ => [(34, .agg #[.float .f32 v0, .float .f32 v1, .float .f32 v2]), (35, .tuple #[.agg #[.slice s_.2.1 P'.length s_.2.2.1, .slice s_.2.2.2.1 R.length s_.2.2.2.2.1], .bool b]), (31, .tuple #[.agg #[.slice s_.2.1 P'.length s_.2.2.1, .slice s_.2.2.2.1 R.length s_.2.2.2.2.1], .bool b]), (36, .agg #[.slice s_.2.1 P'.length s_.2.2.1, .slice s_.2.2.2.1 R.length s_.2.2.2.2.1]), (37, .bool b)]) (fun s_ w' => (BoxAt w' (w.heap.size) 25 (.slice A0 L0.length c0) (.slice B0 T0.length e0)) ∧ (BoxT w' (w.heap.size + 1) 38 v0 v1 v2) ∧ (RefM w' aW bW (.slice AW P'.length cW) (.slice BW R.length eW) PW R) ∧ (BoxAt w' gW 29 (.slice AW P'.length cW) (.slice BW R.length eW)) ∧ (OwnM w' w3.heap.size w4.heap.size (.slice A4 P0.length c4) (.slice B4 T0.length e4) P0 T0) ∧ (BoxAt w' w4.heap.size 29 (.slice A4 P0.length c4) (.slice B4 T0.length e4)) ∧ (Below w.heap.size w w') ∧ (w5.heap.size ≤ w'.heap.size) ∧ (simP s_.1 P') ∧ (OwnM w' s_.2.2.2.2.2.1 s_.2.2.2.2.2.2 (.slice s_.2.1 P'.length s_.2.2.1) (.slice s_.2.2.2.1 R.length s_.2.2.2.2.1) s_.1 R) ∧ (w5.heap.size ≤ s_.2.2.2.2.2.1) ∧ (s_.2.2.2.2.2.2 ≤ w'.heap.size)) ?_ ?_
      · skip
        rintro ⟨PG, AG, cG, BG, eG, aG, bG⟩ wn ⟨f_BA0_, f_BV_, f_W, f_BW, f_X0_, f_BX0_, f_Kd_, f_hzd, f_sx, f_rx, yaG, f_bx_⟩
        replace f_BA0_ : BoxAt wn (w.heap.size) 25 (.slice A0 L0.length c0) (.slice B0 T0.length e0) := f_BA0_
        replace f_BV_ : BoxT wn (w.heap.size + 1) 38 v0 v1 v2 := f_BV_
        replace f_W : RefM wn aW bW (.slice AW P'.length cW) (.slice BW R.length eW) PW R := f_W
        replace f_BW : BoxAt wn gW 29 (.slice AW P'.length cW) (.slice BW R.length eW) := f_BW
        replace f_X0_ : OwnM wn w3.heap.size w4.heap.size (.slice A4 P0.length c4) (.slice B4 T0.length e4) P0 T0 := f_X0_
        replace f_BX0_ : BoxAt wn w4.heap.size 29 (.slice A4 P0.length c4) (.slice B4 T0.length e4) := f_BX0_
        replace f_Kd_ : Below w.heap.size w wn := f_Kd_
        replace f_hzd : w5.heap.size ≤ wn.heap.size := f_hzd
        replace f_sx : simP PG P' := f_sx
        replace f_rx : OwnM wn aG bG (.slice AG P'.length cG) (.slice BG R.length eG) PG R := f_rx
        replace yaG : w5.heap.size ≤ aG := yaG
        replace f_bx_ : bG ≤ wn.heap.size := f_bx_
        refine norm_ (a' := ?_) ?_ ?_
        rotate_left
        · simp only [putAll, Act.put, List.setIfInBounds_toArray, List.set_cons_zero, List.set_cons_succ]; rfl
        refine one_ (i := 7) (N := (some 9)) #[true, true, true, true, true, true, true, true, false, false] rfl rfl (by kernel_rfl) (by decide) (fun K hK => ?_)
        refine box_step ?hg (N := 9) ?hd (cs := #[.slice none 0 0, .slice none 0 0]) (t := 29) ?hr ?_; (case hd => rfl); (case hg => rfl); (case hr => first | (go_simp; done) | (go_simp; rfl))
        intro gG hg wz m_gx hb
        have m_gx_ : w5.heap.size ≤ gG := by rw [hg]; exact f_hzd
        have hgnew := hg
        have m_BA0_ := f_BA0_.below hb
        have m_BV_ := f_BV_.below hb
        have m_W := f_W.below hb
        have m_BW := f_BW.below hb
        have m_X0_ := f_X0_.below hb
        have m_BX0_ := f_BX0_.below hb
        have m_Kd_ := below_step f_Kd_ hb
        have m_hzd := Nat.le_trans f_hzd hb.size
        have m_sx := f_sx
        have m_rx := f_rx.below hb
        have m_ax_ := yaG
        have m_bx_ := Nat.le_trans f_bx_ hb.size
        refine hK.out _ _ ⟨m_BV_.c0, m_BV_.c1, m_BV_.c2, m_BX0_.c0, m_BX0_.c1⟩ (fun hHeld => ?_)
        clear hK K
        refine norm_ (a' := ?_) ?_ ?_
        rotate_left
        · show Act.put _ (some 9) _ = _
          simp only [Act.put, List.setIfInBounds_toArray, List.set_cons_zero, List.set_cons_succ, i64_w, i32_w]
          rfl
        have m_fg := (Or.inr (by rw [hgnew]; exact f_bx_) : gG < aG ∨ bG ≤ gG)
        exact norm_ (by simp only [putAll, Act.put, List.setIfInBounds_toArray, List.set_cons_zero, List.set_cons_succ]) (hN_v_f_g (PG, AG, cG, BG, eG, aG, bG, gG) _ ⟨m_BA0_, m_BV_, m_W, m_BW, m_X0_, m_BX0_, m_Kd_, m_hzd, m_sx, m_rx, m_ax_, m_bx_, m_gx, m_gx_, m_fg⟩)
      intro hN_v_f
      refine join_ (σ := Nat) 6 #[true, true, true, false, false, false, false, true, false, false] (fun s_ => [(34, .agg #[.float .f32 v0, .float .f32 v1, .float .f32 v2]), (9, .pointer (some ⟨s_, 0, none⟩))]) (fun s_ w' => (BoxAt w' (w.heap.size) 25 (.slice A0 L0.length c0) (.slice B0 T0.length e0)) ∧ (BoxT w' (w.heap.size + 1) 38 v0 v1 v2) ∧ (RefM w' aW bW (.slice AW P'.length cW) (.slice BW R.length eW) PW R) ∧ (BoxAt w' gW 29 (.slice AW P'.length cW) (.slice BW R.length eW)) ∧ (OwnM w' w3.heap.size w4.heap.size (.slice A4 P0.length c4) (.slice B4 T0.length e4) P0 T0) ∧ (BoxAt w' w4.heap.size 29 (.slice A4 P0.length c4) (.slice B4 T0.length e4)) ∧ (Below w.heap.size w w') ∧ (w5.heap.size ≤ w'.heap.size) ∧ (BoxAt w' s_ 29 (.slice none 0 0) (.slice none 0 0)) ∧ (w5.heap.size ≤ s_)) ?_ ?_
      · skip
        rintro gG wn ⟨f_BA0_, f_BV_, f_W, f_BW, f_X0_, f_BX0_, f_Kd_, f_hzd, f_gx, ygG⟩
        replace f_BA0_ : BoxAt wn (w.heap.size) 25 (.slice A0 L0.length c0) (.slice B0 T0.length e0) := f_BA0_
        replace f_BV_ : BoxT wn (w.heap.size + 1) 38 v0 v1 v2 := f_BV_
        replace f_W : RefM wn aW bW (.slice AW P'.length cW) (.slice BW R.length eW) PW R := f_W
        replace f_BW : BoxAt wn gW 29 (.slice AW P'.length cW) (.slice BW R.length eW) := f_BW
        replace f_X0_ : OwnM wn w3.heap.size w4.heap.size (.slice A4 P0.length c4) (.slice B4 T0.length e4) P0 T0 := f_X0_
        replace f_BX0_ : BoxAt wn w4.heap.size 29 (.slice A4 P0.length c4) (.slice B4 T0.length e4) := f_BX0_
        replace f_Kd_ : Below w.heap.size w wn := f_Kd_
        replace f_hzd : w5.heap.size ≤ wn.heap.size := f_hzd
        replace f_gx : BoxAt wn gG 29 (.slice none 0 0) (.slice none 0 0) := f_gx
        replace ygG : w5.heap.size ≤ gG := ygG
        refine norm_ (a' := ?_) ?_ ?_
        rotate_left
        · simp only [putAll, Act.put, List.setIfInBounds_toArray, List.set_cons_zero, List.set_cons_succ]; rfl
        refine one_ (i := 3) (N := (some 35)) #[true, true, true, true, false, false, false, true, false, false] rfl rfl (by kernel_rfl) (by decide) (fun K hK => ?_)
        refine goes_ Try.func18 (by kernel_rfl) rfl #[.agg #[.slice A4 P0.length c4, .slice B4 T0.length e4], .agg #[.float .f32 v0, .float .f32 v1, .float .f32 v2]] (by rfl) rfl rfl (by (try simp only [List.map_toArray, List.map_cons, List.map_nil]); first | done | rfl) ?_
        refine (H2.out _ _ _ _ _ f_X0_.read).mono ?_
        rintro E wz ⟨PG, AG, cG, BG, eG, m_sx, rfl, m_rx, hb⟩
        refine ⟨_, rfl, ?_⟩
        obtain ⟨aG, hax⟩ : ∃ a, a = wn.heap.size := ⟨_, rfl⟩
        obtain ⟨bG, hbx⟩ : ∃ b, b = wz.heap.size := ⟨_, rfl⟩
        rw [← hax, ← hbx] at m_rx
        have m_ax_ : w5.heap.size ≤ aG := by rw [hax]; exact f_hzd
        have m_bx_ : bG ≤ wz.heap.size := by rw [hbx]; exact Nat.le_refl _
        have m_BA0_ := f_BA0_.below hb
        have m_BV_ := f_BV_.below hb
        have m_W := f_W.below hb
        have m_BW := f_BW.below hb
        have m_X0_ := f_X0_.below hb
        have m_BX0_ := f_BX0_.below hb
        have m_Kd_ := below_step f_Kd_ hb
        have m_hzd := Nat.le_trans f_hzd hb.size
        have m_gx := f_gx.below hb
        have m_gx_ := ygG
        refine hK.out _ _ ⟨m_BV_.c0, m_BV_.c1, m_BV_.c2, m_BX0_.c0, m_BX0_.c1⟩ (fun hHeld => ?_)
        clear hK K
        refine norm_ (a' := ?_) ?_ ?_
        rotate_left
        · show Act.put _ (some 35) _ = _
          simp only [Act.put, List.setIfInBounds_toArray, List.set_cons_zero, List.set_cons_succ, i64_w, i32_w]
          rfl
        refine pure_ (i := 4) (N := (some 31)) (v := ?_) (a' := ?_) #[true, true, true, true, true, false, false, true, false, false] rfl rfl (by kernel_rfl) (fun _ _ _ h => h) (Or.inl ⟨by rfl, ?_⟩) ?_ ?_
        rotate_left
        · intro w'
          go_simp
          with_reducible rfl
        rotate_left
        · simp only [Act.put, List.setIfInBounds_toArray, List.set_cons_zero, List.set_cons_succ, i64_w, i32_w]; rfl
        refine pure_ (i := 5) (N := (some 36)) (v := ?_) (a' := ?_) #[true, true, true, true, true, true, false, true, false, false] rfl rfl (by kernel_rfl) (fun _ _ _ h => h) (Or.inl ⟨by rfl, ?_⟩) ?_ ?_
        rotate_left
        · intro w'
          go_simp
          with_reducible rfl
        rotate_left
        · simp only [Act.put, List.setIfInBounds_toArray, List.set_cons_zero, List.set_cons_succ, i64_w, i32_w]; rfl
        refine pure_ (i := 6) (N := (some 37)) (v := ?_) (a' := ?_) #[true, true, true, true, true, true, true, true, false, false] rfl rfl (by kernel_rfl) (fun _ _ _ h => h) (Or.inl ⟨by rfl, ?_⟩) ?_ ?_
        rotate_left
        · intro w'
          go_simp
          with_reducible rfl
        rotate_left
        · simp only [Act.put, List.setIfInBounds_toArray, List.set_cons_zero, List.set_cons_succ, i64_w, i32_w]; rfl
        have m_fg := (Or.inl (by rw [hax]; exact f_gx.lt) : gG < aG ∨ bG ≤ gG)
        exact norm_ (by simp only [putAll, Act.put, List.setIfInBounds_toArray, List.set_cons_zero, List.set_cons_succ]) (hN_v_f_g (PG, AG, cG, BG, eG, aG, bG, gG) _ ⟨m_BA0_, m_BV_, m_W, m_BW, m_X0_, m_BX0_, m_Kd_, m_hzd, m_sx, m_rx, m_ax_, m_bx_, m_gx, m_gx_, m_fg⟩)
      intro hN_v_g
      refine join_ (σ := Unit) 7 #[true, true, true, false, false, false, false, false, false, false] (fun s_ => [(34, .agg #[.float .f32 v0, .float .f32 v1, .float .f32 v2])]) (fun s_ w' => (BoxAt w' (w.heap.size) 25 (.slice A0 L0.length c0) (.slice B0 T0.length e0)) ∧ (BoxT w' (w.heap.size + 1) 38 v0 v1 v2) ∧ (RefM w' aW bW (.slice AW P'.length cW) (.slice BW R.length eW) PW R) ∧ (BoxAt w' gW 29 (.slice AW P'.length cW) (.slice BW R.length eW)) ∧ (OwnM w' w3.heap.size w4.heap.size (.slice A4 P0.length c4) (.slice B4 T0.length e4) P0 T0) ∧ (BoxAt w' w4.heap.size 29 (.slice A4 P0.length c4) (.slice B4 T0.length e4)) ∧ (Below w.heap.size w w') ∧ (w5.heap.size ≤ w'.heap.size)) ?_ ?_
      · skip
        rintro ⟨⟩ wn ⟨f_BA0_, f_BV_, f_W, f_BW, f_X0_, f_BX0_, f_Kd_, f_hzd⟩
        replace f_BA0_ : BoxAt wn (w.heap.size) 25 (.slice A0 L0.length c0) (.slice B0 T0.length e0) := f_BA0_
        replace f_BV_ : BoxT wn (w.heap.size + 1) 38 v0 v1 v2 := f_BV_
        replace f_W : RefM wn aW bW (.slice AW P'.length cW) (.slice BW R.length eW) PW R := f_W
        replace f_BW : BoxAt wn gW 29 (.slice AW P'.length cW) (.slice BW R.length eW) := f_BW
        replace f_X0_ : OwnM wn w3.heap.size w4.heap.size (.slice A4 P0.length c4) (.slice B4 T0.length e4) P0 T0 := f_X0_
        replace f_BX0_ : BoxAt wn w4.heap.size 29 (.slice A4 P0.length c4) (.slice B4 T0.length e4) := f_BX0_
        replace f_Kd_ : Below w.heap.size w wn := f_Kd_
        replace f_hzd : w5.heap.size ≤ wn.heap.size := f_hzd
        refine norm_ (a' := ?_) ?_ ?_
        rotate_left
        · simp only [putAll, Act.put, List.setIfInBounds_toArray, List.set_cons_zero, List.set_cons_succ]; rfl
        refine two_ (i := 3) (j := 7) (Ni := (some 35)) (Nj := (some 9)) #[true, true, true, true, false, false, false, false, false, false] #[true, true, true, false, false, false, false, true, false, false] rfl rfl rfl rfl (by kernel_rfl) (by decide) (by decide) (fun K hK => ?_) (fun K hK => ?_) 
        · skip
          refine goes_ Try.func18 (by kernel_rfl) rfl #[.agg #[.slice A4 P0.length c4, .slice B4 T0.length e4], .agg #[.float .f32 v0, .float .f32 v1, .float .f32 v2]] (by rfl) rfl rfl (by (try simp only [List.map_toArray, List.map_cons, List.map_nil]); first | done | rfl) ?_
          refine (H2.out _ _ _ _ _ f_X0_.read).mono ?_
          rintro E wz ⟨PG, AG, cG, BG, eG, m_sx, rfl, m_rx, hb⟩
          refine ⟨_, rfl, ?_⟩
          obtain ⟨aG, hax⟩ : ∃ a, a = wn.heap.size := ⟨_, rfl⟩
          obtain ⟨bG, hbx⟩ : ∃ b, b = wz.heap.size := ⟨_, rfl⟩
          rw [← hax, ← hbx] at m_rx
          have m_ax_ : w5.heap.size ≤ aG := by rw [hax]; exact f_hzd
          have m_bx_ : bG ≤ wz.heap.size := by rw [hbx]; exact Nat.le_refl _
          have m_BA0_ := f_BA0_.below hb
          have m_BV_ := f_BV_.below hb
          have m_W := f_W.below hb
          have m_BW := f_BW.below hb
          have m_X0_ := f_X0_.below hb
          have m_BX0_ := f_BX0_.below hb
          have m_Kd_ := below_step f_Kd_ hb
          have m_hzd := Nat.le_trans f_hzd hb.size
          refine hK.out _ _ ⟨m_BV_.c0, m_BV_.c1, m_BV_.c2, m_BX0_.c0, m_BX0_.c1⟩ (fun hHeld => ?_)
          clear hK K
          refine norm_ (a' := ?_) ?_ ?_
          rotate_left
          · show Act.put _ (some 35) _ = _
            simp only [Act.put, List.setIfInBounds_toArray, List.set_cons_zero, List.set_cons_succ, i64_w, i32_w]
            rfl
          refine pure_ (i := 4) (N := (some 31)) (v := ?_) (a' := ?_) #[true, true, true, true, true, false, false, false, false, false] rfl rfl (by kernel_rfl) (fun _ _ _ h => h) (Or.inl ⟨by rfl, ?_⟩) ?_ ?_
          rotate_left
          · intro w'
            go_simp
            with_reducible rfl
          rotate_left
          · simp only [Act.put, List.setIfInBounds_toArray, List.set_cons_zero, List.set_cons_succ, i64_w, i32_w]; rfl
          refine pure_ (i := 5) (N := (some 36)) (v := ?_) (a' := ?_) #[true, true, true, true, true, true, false, false, false, false] rfl rfl (by kernel_rfl) (fun _ _ _ h => h) (Or.inl ⟨by rfl, ?_⟩) ?_ ?_
          rotate_left
          · intro w'
            go_simp
            with_reducible rfl
          rotate_left
          · simp only [Act.put, List.setIfInBounds_toArray, List.set_cons_zero, List.set_cons_succ, i64_w, i32_w]; rfl
          refine pure_ (i := 6) (N := (some 37)) (v := ?_) (a' := ?_) #[true, true, true, true, true, true, true, false, false, false] rfl rfl (by kernel_rfl) (fun _ _ _ h => h) (Or.inl ⟨by rfl, ?_⟩) ?_ ?_
          rotate_left
          · intro w'
            go_simp
            with_reducible rfl
          rotate_left
          · simp only [Act.put, List.setIfInBounds_toArray, List.set_cons_zero, List.set_cons_succ, i64_w, i32_w]; rfl
          exact norm_ (by simp only [putAll, Act.put, List.setIfInBounds_toArray, List.set_cons_zero, List.set_cons_succ]) (hN_v_f (PG, AG, cG, BG, eG, aG, bG) _ ⟨m_BA0_, m_BV_, m_W, m_BW, m_X0_, m_BX0_, m_Kd_, m_hzd, m_sx, m_rx, m_ax_, m_bx_⟩)
        · skip
          refine box_step ?hg (N := 9) ?hd (cs := #[.slice none 0 0, .slice none 0 0]) (t := 29) ?hr ?_; (case hd => rfl); (case hg => rfl); (case hr => first | (go_simp; done) | (go_simp; rfl))
          intro gG hg wz m_gx hb
          have m_gx_ : w5.heap.size ≤ gG := by rw [hg]; exact f_hzd
          have hgnew := hg
          have m_BA0_ := f_BA0_.below hb
          have m_BV_ := f_BV_.below hb
          have m_W := f_W.below hb
          have m_BW := f_BW.below hb
          have m_X0_ := f_X0_.below hb
          have m_BX0_ := f_BX0_.below hb
          have m_Kd_ := below_step f_Kd_ hb
          have m_hzd := Nat.le_trans f_hzd hb.size
          refine hK.out _ _ ⟨m_BV_.c0, m_BV_.c1, m_BV_.c2, m_BX0_.c0, m_BX0_.c1⟩ (fun hHeld => ?_)
          clear hK K
          refine norm_ (a' := ?_) ?_ ?_
          rotate_left
          · show Act.put _ (some 9) _ = _
            simp only [Act.put, List.setIfInBounds_toArray, List.set_cons_zero, List.set_cons_succ, i64_w, i32_w]
            rfl
          exact norm_ (by simp only [putAll, Act.put, List.setIfInBounds_toArray, List.set_cons_zero, List.set_cons_succ]) (hN_v_g (gG) _ ⟨m_BA0_, m_BV_, m_W, m_BW, m_X0_, m_BX0_, m_Kd_, m_hzd, m_gx, m_gx_⟩)
      intro hN_v
      refine join_ (σ := Nat) 7 #[true, true, false, false, false, false, false, true, false, false] (fun s_ => [(9, .pointer (some ⟨s_, 0, none⟩))]) (fun s_ w' => (BoxAt w' (w.heap.size) 25 (.slice A0 L0.length c0) (.slice B0 T0.length e0)) ∧ (BoxT w' (w.heap.size + 1) 38 v0 v1 v2) ∧ (RefM w' aW bW (.slice AW P'.length cW) (.slice BW R.length eW) PW R) ∧ (BoxAt w' gW 29 (.slice AW P'.length cW) (.slice BW R.length eW)) ∧ (OwnM w' w3.heap.size w4.heap.size (.slice A4 P0.length c4) (.slice B4 T0.length e4) P0 T0) ∧ (BoxAt w' w4.heap.size 29 (.slice A4 P0.length c4) (.slice B4 T0.length e4)) ∧ (Below w.heap.size w w') ∧ (w5.heap.size ≤ w'.heap.size) ∧ (BoxAt w' s_ 29 (.slice none 0 0) (.slice none 0 0)) ∧ (w5.heap.size ≤ s_)) ?_ ?_
      · skip
        rintro gG wn ⟨f_BA0_, f_BV_, f_W, f_BW, f_X0_, f_BX0_, f_Kd_, f_hzd, f_gx, ygG⟩
        replace f_BA0_ : BoxAt wn (w.heap.size) 25 (.slice A0 L0.length c0) (.slice B0 T0.length e0) := f_BA0_
        replace f_BV_ : BoxT wn (w.heap.size + 1) 38 v0 v1 v2 := f_BV_
        replace f_W : RefM wn aW bW (.slice AW P'.length cW) (.slice BW R.length eW) PW R := f_W
        replace f_BW : BoxAt wn gW 29 (.slice AW P'.length cW) (.slice BW R.length eW) := f_BW
        replace f_X0_ : OwnM wn w3.heap.size w4.heap.size (.slice A4 P0.length c4) (.slice B4 T0.length e4) P0 T0 := f_X0_
        replace f_BX0_ : BoxAt wn w4.heap.size 29 (.slice A4 P0.length c4) (.slice B4 T0.length e4) := f_BX0_
        replace f_Kd_ : Below w.heap.size w wn := f_Kd_
        replace f_hzd : w5.heap.size ≤ wn.heap.size := f_hzd
        replace f_gx : BoxAt wn gG 29 (.slice none 0 0) (.slice none 0 0) := f_gx
        replace ygG : w5.heap.size ≤ gG := ygG
        refine norm_ (a' := ?_) ?_ ?_
        rotate_left
        · simp only [putAll, Act.put, List.setIfInBounds_toArray, List.set_cons_zero, List.set_cons_succ]; rfl
        refine one_ (i := 2) (N := (some 34)) #[true, true, true, false, false, false, false, true, false, false] rfl rfl (by kernel_rfl) (by decide) (fun K hK => ?_)
        refine goes_ Try.func17 (by kernel_rfl) rfl #[.agg #[.float .f32 v0, .float .f32 v1, .float .f32 v2]] (by rfl) rfl rfl (by (try simp only [List.map_toArray, List.map_cons, List.map_nil]); first | done | rfl) ?_
        refine (laws_toVector v0 v1 v2 _).mono ?_
        rintro E wz ⟨rfl, hb⟩
        refine ⟨_, rfl, ?_⟩
        have m_BA0_ := f_BA0_.below hb
        have m_BV_ := f_BV_.below hb
        have m_W := f_W.below hb
        have m_BW := f_BW.below hb
        have m_X0_ := f_X0_.below hb
        have m_BX0_ := f_BX0_.below hb
        have m_Kd_ := below_step f_Kd_ hb
        have m_hzd := Nat.le_trans f_hzd hb.size
        have m_gx := f_gx.below hb
        have m_gx_ := ygG
        refine hK.out _ _ ⟨m_BV_.c0, m_BV_.c1, m_BV_.c2, m_BX0_.c0, m_BX0_.c1⟩ (fun hHeld => ?_)
        clear hK K
        refine norm_ (a' := ?_) ?_ ?_
        rotate_left
        · show Act.put _ (some 34) _ = _
          simp only [Act.put, List.setIfInBounds_toArray, List.set_cons_zero, List.set_cons_succ, i64_w, i32_w]
          rfl
        exact norm_ (by simp only [putAll, Act.put, List.setIfInBounds_toArray, List.set_cons_zero, List.set_cons_succ]) (hN_v_g (gG) _ ⟨m_BA0_, m_BV_, m_W, m_BW, m_X0_, m_BX0_, m_Kd_, m_hzd, m_gx, m_gx_⟩)
      intro hN_g
      refine two_ (i := 2) (j := 7) (Ni := (some 34)) (Nj := (some 9)) #[true, true, true, false, false, false, false, false, false, false] #[true, true, false, false, false, false, false, true, false, false] rfl rfl rfl rfl (by kernel_rfl) (by decide) (by decide) (fun K hK => ?_) (fun K hK => ?_) 
      · skip
        refine goes_ Try.func17 (by kernel_rfl) rfl #[.agg #[.float .f32 v0, .float .f32 v1, .float .f32 v2]] (by rfl) rfl rfl (by (try simp only [List.map_toArray, List.map_cons, List.map_nil]); first | done | rfl) ?_
        refine (laws_toVector v0 v1 v2 _).mono ?_
        rintro E wz ⟨rfl, hb⟩
        refine ⟨_, rfl, ?_⟩
        have m_BA0_ := BA0_d.out.below hb
        have m_BV_ := BV_d.out.below hb
        have m_W := Wd.out.below hb
        have m_BW := BWd.out.below hb
        have m_X0_ := X0_d.out.below hb
        have m_BX0_ := BX0_d.out.below hb
        have m_Kd_ := below_step Kd_.out hb
        have m_hzd := Nat.le_trans hzd hb.size
        refine hK.out _ _ ⟨m_BV_.c0, m_BV_.c1, m_BV_.c2, m_BX0_.c0, m_BX0_.c1⟩ (fun hHeld => ?_)
        clear hK K
        refine norm_ (a' := ?_) ?_ ?_
        rotate_left
        · show Act.put _ (some 34) _ = _
          simp only [Act.put, List.setIfInBounds_toArray, List.set_cons_zero, List.set_cons_succ, i64_w, i32_w]
          rfl
        exact norm_ (by simp only [putAll, Act.put, List.setIfInBounds_toArray, List.set_cons_zero, List.set_cons_succ]) (hN_v () _ ⟨m_BA0_, m_BV_, m_W, m_BW, m_X0_, m_BX0_, m_Kd_, m_hzd⟩)
      · skip
        refine box_step ?hg (N := 9) ?hd (cs := #[.slice none 0 0, .slice none 0 0]) (t := 29) ?hr ?_; (case hd => rfl); (case hg => rfl); (case hr => first | (go_simp; done) | (go_simp; rfl))
        intro gG hg wz m_gx hb
        have m_gx_ : w5.heap.size ≤ gG := by rw [hg]; exact hzd
        have hgnew := hg
        have m_BA0_ := BA0_d.out.below hb
        have m_BV_ := BV_d.out.below hb
        have m_W := Wd.out.below hb
        have m_BW := BWd.out.below hb
        have m_X0_ := X0_d.out.below hb
        have m_BX0_ := BX0_d.out.below hb
        have m_Kd_ := below_step Kd_.out hb
        have m_hzd := Nat.le_trans hzd hb.size
        refine hK.out _ _ ⟨m_BV_.c0, m_BV_.c1, m_BV_.c2, m_BX0_.c0, m_BX0_.c1⟩ (fun hHeld => ?_)
        clear hK K
        refine norm_ (a' := ?_) ?_ ?_
        rotate_left
        · show Act.put _ (some 9) _ = _
          simp only [Act.put, List.setIfInBounds_toArray, List.set_cons_zero, List.set_cons_succ, i64_w, i32_w]
          rfl
        exact norm_ (by simp only [putAll, Act.put, List.setIfInBounds_toArray, List.set_cons_zero, List.set_cons_succ]) (hN_g (gG) _ ⟨m_BA0_, m_BV_, m_W, m_BW, m_X0_, m_BX0_, m_Kd_, m_hzd, m_gx, m_gx_⟩)
    rintro ⟨PG, AG, cG, BG, eG, aG, bG, gG⟩ w6 ⟨f_BA0_, f_BV_, f_W, f_BW, f_X0_, f_BX0_, f_Kd_, f_hzd, f_sx, f_rx, yaG, f_bx_, f_gx, ygG, yfG⟩
    replace f_BA0_ : BoxAt w6 (w.heap.size) 25 (.slice A0 L0.length c0) (.slice B0 T0.length e0) := f_BA0_
    replace f_BV_ : BoxT w6 (w.heap.size + 1) 38 v0 v1 v2 := f_BV_
    replace f_W : RefM w6 aW bW (.slice AW P'.length cW) (.slice BW R.length eW) PW R := f_W
    replace f_BW : BoxAt w6 gW 29 (.slice AW P'.length cW) (.slice BW R.length eW) := f_BW
    replace f_X0_ : OwnM w6 w3.heap.size w4.heap.size (.slice A4 P0.length c4) (.slice B4 T0.length e4) P0 T0 := f_X0_
    replace f_BX0_ : BoxAt w6 w4.heap.size 29 (.slice A4 P0.length c4) (.slice B4 T0.length e4) := f_BX0_
    replace f_Kd_ : Below w.heap.size w w6 := f_Kd_
    replace f_hzd : w5.heap.size ≤ w6.heap.size := f_hzd
    replace f_sx : simP PG P' := f_sx
    replace f_rx : OwnM w6 aG bG (.slice AG P'.length cG) (.slice BG R.length eG) PG R := f_rx
    replace yaG : w5.heap.size ≤ aG := yaG
    replace f_bx_ : bG ≤ w6.heap.size := f_bx_
    replace f_gx : BoxAt w6 gG 29 (.slice none 0 0) (.slice none 0 0) := f_gx
    replace ygG : w5.heap.size ≤ gG := ygG
    replace yfG : gG < aG ∨ bG ≤ gG := yfG
    refine norm_ (a' := ?_) ?_ ?_
    rotate_left
    · simp only [putAll, Act.put, List.setIfInBounds_toArray, List.set_cons_zero, List.set_cons_succ]; rfl
    have hg0 := f_gx.c0; have hg1 := f_gx.c1; have hgz0 := blk_frozen f_gx 0; have hgz1 := blk_frozen f_gx 1; have hgl := f_gx.lt
    have hk := kept_box (w := w6) (g := gG) (.slice AG P'.length cG) (.slice BG R.length eG)
    have hkb := blk_put (blk_put f_gx 0 (.slice AG P'.length cG) rfl) 1 (.slice BG R.length eG) rfl
    have hkK := below_set (j := 1) (v := (.slice BG R.length eG)) (below_set (j := 0) (v := (.slice AG P'.length cG)) f_Kd_ (by omega : w.heap.size ≤ gG)) (by omega : w.heap.size ≤ gG)
    have hBA0_ : BoxAt ((w6.setCell ⟨gG, 0, none⟩ (.slice AG P'.length cG)).setCell ⟨gG, 1, none⟩ (.slice BG R.length eG)) (w.heap.size) 25 (.slice A0 L0.length c0) (.slice B0 T0.length e0) := f_BA0_.kept hk (by omega)
    have hBV_ : BoxT ((w6.setCell ⟨gG, 0, none⟩ (.slice AG P'.length cG)).setCell ⟨gG, 1, none⟩ (.slice BG R.length eG)) (w.heap.size + 1) 38 v0 v1 v2 := f_BV_.kept hk (by omega)
    have hW : RefM ((w6.setCell ⟨gG, 0, none⟩ (.slice AG P'.length cG)).setCell ⟨gG, 1, none⟩ (.slice BG R.length eG)) aW bW (.slice AW P'.length cW) (.slice BW R.length eW) PW R := f_W.kept hk (by omega)
    have hBW : BoxAt ((w6.setCell ⟨gG, 0, none⟩ (.slice AG P'.length cG)).setCell ⟨gG, 1, none⟩ (.slice BG R.length eG)) gW 29 (.slice AW P'.length cW) (.slice BW R.length eW) := f_BW.kept hk (by omega)
    have hX0_ : OwnM ((w6.setCell ⟨gG, 0, none⟩ (.slice AG P'.length cG)).setCell ⟨gG, 1, none⟩ (.slice BG R.length eG)) w3.heap.size w4.heap.size (.slice A4 P0.length c4) (.slice B4 T0.length e4) P0 T0 := f_X0_.kept hk (by omega)
    have hBX0_ : BoxAt ((w6.setCell ⟨gG, 0, none⟩ (.slice AG P'.length cG)).setCell ⟨gG, 1, none⟩ (.slice BG R.length eG)) w4.heap.size 29 (.slice A4 P0.length c4) (.slice B4 T0.length e4) := f_BX0_.kept hk (by omega)
    have hrx := f_rx.kept hk (by omega)
    refine one_ (i := 8) (N := none) #[true, true, true, true, true, true, true, true, true, false] rfl rfl (by kernel_rfl) (by decide) (fun K hK => ?_)
    refine skip_ (w1 := ?_) (by rfl) rfl ?_ ?_
    rotate_left
    · go_simp
      rfl
    refine hK.out _ _ ⟨BoxT.c0 hBV_, BoxT.c1 hBV_, BoxT.c2 hBV_, BoxAt.c0 hBX0_, BoxAt.c1 hBX0_⟩ (fun hHeld => ?_)
    clear hK K
    refine pure_ (i := 9) (N := (some 10)) (v := ?_) (a' := ?_) #[true, true, true, true, true, true, true, true, true, true] rfl rfl (by kernel_rfl) (fun _ _ _ h => h) (Or.inl ⟨by rfl, ?_⟩) ?_ ?_
    rotate_left
    · intro w'
      go_simp
      with_reducible rfl
    rotate_left
    · simp only [Act.put, List.setIfInBounds_toArray, List.set_cons_zero, List.set_cons_succ, i64_w, i32_w]; rfl
    refine done_ (by kernel_rfl) ?_
    obtain ⟨w7, hw⟩ : ∃ W, W = ((w6.setCell ⟨gG, 0, none⟩ (.slice AG P'.length cG)).setCell ⟨gG, 1, none⟩ (.slice BG R.length eG)) := ⟨_, rfl⟩
    have hszk : w7.heap.size = w6.heap.size := by rw [hw]; simp [World.setCell]
    rw [← hw] at hBA0_ hBV_ hW hBW hX0_ hBX0_ hrx hkb hkK ⊢
    have BA0_7 := Lib.hid hBA0_
    have ba0_c7 := BA0_7.out.c0
    have ba0_d7 := BA0_7.out.c1
    have BV_7 := Lib.hid hBV_
    have bv_c7 := BV_7.out.c0
    have bv_d7 := BV_7.out.c1
    have bv_e7 := BV_7.out.c2
    have W7 := Lib.hid hW
    have BW7 := Lib.hid hBW
    have bwc7 := BW7.out.c0
    have bwd7 := BW7.out.c1
    have X0_7 := Lib.hid hX0_
    have BX0_7 := Lib.hid hBX0_
    have bx0_c7 := BX0_7.out.c0
    have bx0_d7 := BX0_7.out.c1
    have G7 := Lib.hid hrx; have SG7 := Lib.hid f_sx
    have BG7 := Lib.hid (show BoxAt w7 gG 29 (.slice AG P'.length cG) (.slice BG R.length eG) from hkb); have bgc7 := BG7.out.c0; have bgd7 := BG7.out.c1
    have K7 := Lib.hid hkK; have z7 : w5.heap.size ≤ w7.heap.size := by rw [hszk]; exact f_hzd
    have y7 : gG < w7.heap.size := by rw [hszk]; exact hgl
    have y7b : bG ≤ w7.heap.size := by rw [hszk]; exact f_bx_
    clear hw hg0 hg1 hgz0 hgz1 hgl hk hkb hkK hrx hszk hHeld hBA0_ hBV_ hW hBW hX0_ hBX0_ f_BA0_ f_BV_ f_W f_BW f_X0_ f_BX0_ f_Kd_ f_hzd f_sx f_rx f_gx f_bx_
    go_wp2_with (first
      | (go_at_call 13; refine (eqr_step P' _ _ R SG7.out SW3.out hp1 HR1.out HR2.out _ _ _ _ _ _ _ _ _ (OwnM.readn SG7.out G7.out) (RefM.readn SW3.out W7.out)).mono ?_; rintro E w8 ⟨rfl, hb⟩; have z8 := hb.size; have BA0_8 := Lib.hid (BA0_7.out.below hb); have ba0_c8 := BA0_8.out.c0; have ba0_d8 := BA0_8.out.c1; (try clear ba0_c7 ba0_d7); have BV_8 := Lib.hid (BV_7.out.below hb); have bv_c8 := BV_8.out.c0; have bv_d8 := BV_8.out.c1; have bv_e8 := BV_8.out.c2; (try clear bv_c7 bv_d7 bv_e7); have W8 := Lib.hid (W7.out.below hb); have BW8 := Lib.hid (BW7.out.below hb); have bwc8 := BW8.out.c0; have bwd8 := BW8.out.c1; (try clear bwc7 bwd7); have X0_8 := Lib.hid (X0_7.out.below hb); have BX0_8 := Lib.hid (BX0_7.out.below hb); have bx0_c8 := BX0_8.out.c0; have bx0_d8 := BX0_8.out.c1; (try clear bx0_c7 bx0_d7); have G8 := Lib.hid (G7.out.below hb); have BG8 := Lib.hid (BG7.out.below hb); have bgc8 := BG8.out.c0; have bgd8 := BG8.out.c1; (try clear bgc7 bgd7); have K8 := Lib.hid (below_then K7.out hb K7.out.size); clear hb; skip)
      | fail)
    have BA0_d := Lib.hid (show BoxAt w8.drew (w.heap.size) 25 (.slice A0 L0.length c0) (.slice B0 T0.length e0) from BA0_8.out.below (Below.drew (Below.refl _ _)))
    have BV_d := Lib.hid (show BoxT w8.drew (w.heap.size + 1) 38 v0 v1 v2 from BV_8.out.below (Below.drew (Below.refl _ _)))
    have Wd := Lib.hid (show RefM w8.drew aW bW (.slice AW P'.length cW) (.slice BW R.length eW) PW R from W8.out.below (Below.drew (Below.refl _ _)))
    have BWd := Lib.hid (show BoxAt w8.drew gW 29 (.slice AW P'.length cW) (.slice BW R.length eW) from BW8.out.below (Below.drew (Below.refl _ _)))
    have X0_d := Lib.hid (show OwnM w8.drew w3.heap.size w4.heap.size (.slice A4 P0.length c4) (.slice B4 T0.length e4) P0 T0 from X0_8.out.below (Below.drew (Below.refl _ _)))
    have BX0_d := Lib.hid (show BoxAt w8.drew w4.heap.size 29 (.slice A4 P0.length c4) (.slice B4 T0.length e4) from BX0_8.out.below (Below.drew (Below.refl _ _)))
    have Gd := Lib.hid (show OwnM w8.drew aG bG (.slice AG P'.length cG) (.slice BG R.length eG) PG R from G8.out.below (Below.drew (Below.refl _ _)))
    have BGd := Lib.hid (show BoxAt w8.drew gG 29 (.slice AG P'.length cG) (.slice BG R.length eG) from BG8.out.below (Below.drew (Below.refl _ _)))
    have Kd_ := Lib.hid (Below.drew K8.out); have hzd : w8.heap.size ≤ w8.drew.heap.size := Nat.le_refl _
    refine start_ (n := 5) (S := fun w' => w'.cell? ⟨w4.heap.size, 0, none⟩ = some (.slice A4 P0.length c4) ∧ w'.cell? ⟨w4.heap.size, 1, none⟩ = some (.slice B4 T0.length e4) ∧ w'.cell? ⟨w.heap.size, 0, none⟩ = some (.slice A0 L0.length c0) ∧ w'.cell? ⟨w.heap.size, 1, none⟩ = some (.slice B0 T0.length e0)) (ds := []) #[false, false, false, false, false] (by kernel_rfl) rfl rfl ⟨BX0_d.out.c0, BX0_d.out.c1, BA0_d.out.c0, BA0_d.out.c1⟩ (fun hHeld => ?_)
    generalize w8.drew = wd8 at BA0_d BV_d Wd BWd X0_d BX0_d Gd BGd Kd_ hzd hHeld ⊢
    clear BA0_8 BV_8 W8 BW8 X0_8 BX0_8 G8 BG8 K8 ba0_c8 ba0_d8 bv_c8 bv_d8 bv_e8 bwc8 bwd8 bx0_c8 bx0_d8 bgc8 bgd8
    refine take_ (i := 0) (N := (some 47)) (v := ?_) (a' := ?_) #[true, false, false, false, false] rfl rfl (by kernel_rfl) (fun _ _ _ h => h) (Or.inl ⟨by rfl, ?_⟩) hHeld ?_ ?_
    rotate_left
    · intro w' hSw
      (try dsimp only at hSw)
      go_simp
      with_reducible rfl
    rotate_left
    · simp only [Act.put, List.setIfInBounds_toArray, List.set_cons_zero, List.set_cons_succ, i64_w, i32_w]; rfl
    refine take_ (i := 1) (N := (some 48)) (v := ?_) (a' := ?_) #[true, true, false, false, false] rfl rfl (by kernel_rfl) (fun _ _ _ h => h) (Or.inl ⟨by rfl, ?_⟩) hHeld ?_ ?_
    rotate_left
    · intro w' hSw
      (try dsimp only at hSw)
      go_simp
      with_reducible rfl
    rotate_left
    · simp only [Act.put, List.setIfInBounds_toArray, List.set_cons_zero, List.set_cons_succ, i64_w, i32_w]; rfl
    refine one_ (i := 2) (N := (some 49)) #[true, true, true, false, false] rfl rfl (by kernel_rfl) (by decide) (fun K hK => ?_)
    refine goes_ Try.func11 (by kernel_rfl) rfl #[.agg #[.slice A0 L0.length c0, .slice B0 T0.length e0]] (by rfl) rfl rfl (by (try simp only [List.map_toArray, List.map_cons, List.map_nil]); first | done | rfl) ?_
    refine (HTO0.out _ Kd_.out).mono ?_
    rintro E w9 ⟨Am, cm, Bm, em, rfl, hx, hb, hk⟩
    have BA0_9 := Lib.hid (BA0_d.out.below hb); have BV_9 := Lib.hid (BV_d.out.below hb); have W9 := Lib.hid (Wd.out.below hb); have BW9 := Lib.hid (BWd.out.below hb); have X0_9 := Lib.hid (X0_d.out.below hb); have BX0_9 := Lib.hid (BX0_d.out.below hb); have G9 := Lib.hid (Gd.out.below hb); have BG9 := Lib.hid (BGd.out.below hb)
    have K9 := Lib.hid (below_step Kd_.out hb)
    have z9 : w8.heap.size ≤ w9.heap.size := Nat.le_trans hzd hb.size
    have HX := Lib.hid hx.read
    clear hx hk hb Kd_ BA0_d BV_d Wd BWd X0_d BX0_d Gd BGd
    refine ⟨_, rfl, ?_⟩
    refine hK.out _ _ ⟨BX0_9.out.c0, BX0_9.out.c1, BA0_9.out.c0, BA0_9.out.c1⟩ (fun hHeld => ?_)
    clear hK K
    refine norm_ (a' := ?_) ?_ ?_
    rotate_left
    · show Act.put _ (some 49) _ = _
      simp only [Act.put, List.setIfInBounds_toArray, List.set_cons_zero, List.set_cons_succ, i64_w, i32_w]
      rfl
    refine one_ (i := 3) (N := (some 50)) #[true, true, true, true, false] rfl rfl (by kernel_rfl) (by decide) (fun K hK => ?_)
    refine goes_ Try.func13 (by kernel_rfl) rfl #[.agg #[.slice A4 P0.length c4, .slice B4 T0.length e4], .agg #[.slice Am P0.length cm, .slice Bm T0.length em]] (by rfl) rfl rfl (by (try simp only [List.map_toArray, List.map_cons, List.map_nil]); first | done | rfl) ?_
    refine (eqr_step P0 _ _ T0 HSI0.out HSI0.out hb0 HA0.out HB0.out _ _ _ _ _ _ _ _ _ X0_9.out.read HX.out).mono ?_
    rintro E w10 ⟨rfl, hb⟩
    have BA0_10 := Lib.hid (BA0_9.out.below hb); have BV_10 := Lib.hid (BV_9.out.below hb); have W10 := Lib.hid (W9.out.below hb); have BW10 := Lib.hid (BW9.out.below hb); have X0_10 := Lib.hid (X0_9.out.below hb); have BX0_10 := Lib.hid (BX0_9.out.below hb); have G10 := Lib.hid (G9.out.below hb); have BG10 := Lib.hid (BG9.out.below hb)
    have K10 := Lib.hid (below_step K9.out hb)
    have z10 : w8.heap.size ≤ w10.heap.size := Nat.le_trans z9 hb.size
    clear hb HX K9 z9 BA0_9 BV_9 W9 BW9 X0_9 BX0_9 G9 BG9
    refine ⟨_, rfl, ?_⟩
    refine hK.out _ _ ⟨BX0_10.out.c0, BX0_10.out.c1, BA0_10.out.c0, BA0_10.out.c1⟩ (fun hHeld => ?_)
    clear hK K
    refine norm_ (a' := ?_) ?_ ?_
    rotate_left
    · show Act.put _ (some 50) _ = _
      simp only [Act.put, List.setIfInBounds_toArray, List.set_cons_zero, List.set_cons_succ, i64_w, i32_w]
      rfl
    refine pure_ (i := 4) (N := (some 51)) (v := ?_) (a' := ?_) #[true, true, true, true, true] rfl rfl (by kernel_rfl) (fun _ _ _ h => h) (Or.inl ⟨by rfl, ?_⟩) ?_ ?_
    rotate_left
    · intro w'
      go_simp
      with_reducible rfl
    rotate_left
    · simp only [Act.put, List.setIfInBounds_toArray, List.set_cons_zero, List.set_cons_succ, i64_w, i32_w]; rfl
    refine done_ (by kernel_rfl) ?_
    clear hHeld hzd
    have ba0_c10 := BA0_10.out.c0
    have ba0_d10 := BA0_10.out.c1
    have bv_c10 := BV_10.out.c0
    have bv_d10 := BV_10.out.c1
    have bv_e10 := BV_10.out.c2
    have bwc10 := BW10.out.c0
    have bwd10 := BW10.out.c1
    have bx0_c10 := BX0_10.out.c0
    have bx0_d10 := BX0_10.out.c1
    have bgc10 := BG10.out.c0
    have bgd10 := BG10.out.c1
    skip
    go_wp2_with (first
      | (go_at_call 14; first
          | (refine (markMs_step P' _ R SG7.out hp1 HR1.out HR2.out 1 (by omega) (by omega) _ _ _ _ _ _ _ G12.out w K12.out (by omega) (by omega)).mono ?_; rintro E w13 ⟨rfl, hx, hk, hbk⟩; have z13 := hk.1; have BA0_13 := Lib.hid (BA0_12.out.kept hk (by omega)); have ba0_c13 := BA0_13.out.c0; have ba0_d13 := BA0_13.out.c1; (try clear ba0_c12 ba0_d12); have BV_13 := Lib.hid (BV_12.out.kept hk (by omega)); have bv_c13 := BV_13.out.c0; have bv_d13 := BV_13.out.c1; have bv_e13 := BV_13.out.c2; (try clear bv_c12 bv_d12 bv_e12); have W13 := Lib.hid (W12.out.kept hk (by omega)); have BW13 := Lib.hid (BW12.out.kept hk (by omega)); have bwc13 := BW13.out.c0; have bwd13 := BW13.out.c1; (try clear bwc12 bwd12); have BG13 := Lib.hid (BG12.out.kept hk (by omega)); have bgc13 := BG13.out.c0; have bgd13 := BG13.out.c1; (try clear bgc12 bgd12); have G13 := Lib.hid hx; have K13 := Lib.hid hbk; clear hx hk hbk; skip)
          | (refine (markM_step P0 T0 hb0 HA0.out HB0.out 1 (by omega) (by omega) _ _ _ _ _ _ _ X0_10.out w K10.out (by omega) (by omega)).mono ?_; rintro E w11 ⟨rfl, hx, hk, hbk⟩; have z11 := hk.1; have BA0_11 := Lib.hid (BA0_10.out.kept hk (by omega)); have ba0_c11 := BA0_11.out.c0; have ba0_d11 := BA0_11.out.c1; (try clear ba0_c10 ba0_d10); have BV_11 := Lib.hid (BV_10.out.kept hk (by omega)); have bv_c11 := BV_11.out.c0; have bv_d11 := BV_11.out.c1; have bv_e11 := BV_11.out.c2; (try clear bv_c10 bv_d10 bv_e10); have W11 := Lib.hid (W10.out.kept hk (by omega)); have BW11 := Lib.hid (BW10.out.kept hk (by omega)); have bwc11 := BW11.out.c0; have bwd11 := BW11.out.c1; (try clear bwc10 bwd10); have BX0_11 := Lib.hid (BX0_10.out.kept hk (by omega)); have bx0_c11 := BX0_11.out.c0; have bx0_d11 := BX0_11.out.c1; (try clear bx0_c10 bx0_d10); have G11 := Lib.hid (G10.out.kept hk (by omega)); have BG11 := Lib.hid (BG10.out.kept hk (by omega)); have bgc11 := BG11.out.c0; have bgd11 := BG11.out.c1; (try clear bgc10 bgd10); have K11 := Lib.hid hbk; clear hx hk hbk; skip))
      | (go_at_call 13; refine (eqr_step P' _ _ R SG7.out SW3.out hp1 HR1.out HR2.out _ _ _ _ _ _ _ _ _ (OwnM.readn SG7.out G11.out) (RefM.readn SW3.out W11.out)).mono ?_; rintro E w12 ⟨rfl, hb⟩; have z12 := hb.size; have BA0_12 := Lib.hid (BA0_11.out.below hb); have ba0_c12 := BA0_12.out.c0; have ba0_d12 := BA0_12.out.c1; (try clear ba0_c11 ba0_d11); have BV_12 := Lib.hid (BV_11.out.below hb); have bv_c12 := BV_12.out.c0; have bv_d12 := BV_12.out.c1; have bv_e12 := BV_12.out.c2; (try clear bv_c11 bv_d11 bv_e11); have W12 := Lib.hid (W11.out.below hb); have BW12 := Lib.hid (BW11.out.below hb); have bwc12 := BW12.out.c0; have bwd12 := BW12.out.c1; (try clear bwc11 bwd11); have G12 := Lib.hid (G11.out.below hb); have BG12 := Lib.hid (BG11.out.below hb); have bgc12 := BG12.out.c0; have bgd12 := BG12.out.c1; (try clear bgc11 bgd11); have K12 := Lib.hid (below_then K11.out hb K11.out.size); clear hb; skip)
      | (go_at_call 15; refine (heldM_step P' R hp1 HR1.out HR2.out 1 (by omega) (by omega) _ _ _ _ _ _ _ G13.out).mono ?_; rintro E w14 ⟨rfl, hb⟩; have z14 := hb.size; have BA0_14 := Lib.hid (BA0_13.out.below hb); have ba0_c14 := BA0_14.out.c0; have ba0_d14 := BA0_14.out.c1; (try clear ba0_c13 ba0_d13); have BV_14 := Lib.hid (BV_13.out.below hb); have bv_c14 := BV_14.out.c0; have bv_d14 := BV_14.out.c1; have bv_e14 := BV_14.out.c2; (try clear bv_c13 bv_d13 bv_e13); have W14 := Lib.hid (W13.out.below hb); have BW14 := Lib.hid (BW13.out.below hb); have bwc14 := BW14.out.c0; have bwd14 := BW14.out.c1; (try clear bwc13 bwd13); have G14 := Lib.hid (G13.out.below hb); have BG14 := Lib.hid (BG13.out.below hb); have bgc14 := BG14.out.c0; have bgd14 := BG14.out.c1; (try clear bgc13 bgd13); have K14 := Lib.hid (below_then K13.out hb K13.out.size); clear hb; skip)
      | fail)
    have BA0_d := Lib.hid (show BoxAt w14.drew (w.heap.size) 25 (.slice A0 L0.length c0) (.slice B0 T0.length e0) from BA0_14.out.below (Below.drew (Below.refl _ _)))
    have BV_d := Lib.hid (show BoxT w14.drew (w.heap.size + 1) 38 v0 v1 v2 from BV_14.out.below (Below.drew (Below.refl _ _)))
    have Wd := Lib.hid (show RefM w14.drew aW bW (.slice AW P'.length cW) (.slice BW R.length eW) PW R from W14.out.below (Below.drew (Below.refl _ _)))
    have BWd := Lib.hid (show BoxAt w14.drew gW 29 (.slice AW P'.length cW) (.slice BW R.length eW) from BW14.out.below (Below.drew (Below.refl _ _)))
    have Gd := Lib.hid (show OwnM w14.drew aG bG (.slice AG P'.length cG) (.slice BG R.length eG) (marksV 1 P'.length) (marksT (1 + 3 * (P'.length : Int)) R) from G14.out.below (Below.drew (Below.refl _ _)))
    have BGd := Lib.hid (show BoxAt w14.drew gG 29 (.slice AG P'.length cG) (.slice BG R.length eG) from BG14.out.below (Below.drew (Below.refl _ _)))
    have Kd_ := Lib.hid (Below.drew K14.out); have hzd : w14.heap.size ≤ w14.drew.heap.size := Nat.le_refl _
    refine start_ (n := 11) (S := fun w' => w'.cell? ⟨w.heap.size, 0, none⟩ = some (.slice A0 L0.length c0) ∧ w'.cell? ⟨w.heap.size, 1, none⟩ = some (.slice B0 T0.length e0) ∧ w'.cell? ⟨w.heap.size + 1, 0, none⟩ = some (.float .f32 v0) ∧ w'.cell? ⟨w.heap.size + 1, 1, none⟩ = some (.float .f32 v1) ∧ w'.cell? ⟨w.heap.size + 1, 2, none⟩ = some (.float .f32 v2)) (ds := []) #[false, false, false, false, false, false, false, false, false, false, false] (by kernel_rfl) rfl rfl ⟨BA0_d.out.c0, BA0_d.out.c1, BV_d.out.c0, BV_d.out.c1, BV_d.out.c2⟩ (fun hHeld => ?_)
    generalize w14.drew = wd14 at BA0_d BV_d Wd BWd Gd BGd Kd_ hzd hHeld ⊢
    clear BA0_14 BV_14 W14 BW14 G14 BG14 K14 ba0_c14 ba0_d14 bv_c14 bv_d14 bv_e14 bwc14 bwd14 bgc14 bgd14
    refine take_ (i := 0) (N := (some 80)) (v := ?_) (a' := ?_) #[true, false, false, false, false, false, false, false, false, false, false] rfl rfl (by kernel_rfl) (fun _ _ _ h => h) (Or.inl ⟨by rfl, ?_⟩) hHeld ?_ ?_
    rotate_left
    · intro w' hSw
      (try dsimp only at hSw)
      go_simp
      with_reducible rfl
    rotate_left
    · simp only [Act.put, List.setIfInBounds_toArray, List.set_cons_zero, List.set_cons_succ, i64_w, i32_w]; rfl
    refine take_ (i := 2) (N := (some 82)) (v := ?_) (a' := ?_) #[true, false, true, false, false, false, false, false, false, false, false] rfl rfl (by kernel_rfl) (fun _ _ _ h => h) (Or.inl ⟨by rfl, ?_⟩) hHeld ?_ ?_
    rotate_left
    · intro w' hSw
      (try dsimp only at hSw)
      go_simp
      with_reducible rfl
    rotate_left
    · simp only [Act.put, List.setIfInBounds_toArray, List.set_cons_zero, List.set_cons_succ, i64_w, i32_w]; rfl
    refine join_ (σ := Option Addr × Nat × Option Addr × Nat × List S40 × Option Addr × Nat × Option Addr × Nat × Nat × Nat × Nat) 2 #[true, true, true, true, true, true, true, true, true, false, false] (fun s_ => [(81, .agg #[.slice s_.1 P0.length s_.2.1, .slice s_.2.2.1 T0.length s_.2.2.2.1]), (83, .agg #[.float .f32 v0, .float .f32 v1, .float .f32 v2]), (84, .tuple #[.agg #[.slice s_.2.2.2.2.2.1 P'.length s_.2.2.2.2.2.2.1, .slice s_.2.2.2.2.2.2.2.1 R.length s_.2.2.2.2.2.2.2.2.1], .bool b]), (79, .tuple #[.agg #[.slice s_.2.2.2.2.2.1 P'.length s_.2.2.2.2.2.2.1, .slice s_.2.2.2.2.2.2.2.1 R.length s_.2.2.2.2.2.2.2.2.1], .bool b]), (85, .agg #[.slice s_.2.2.2.2.2.1 P'.length s_.2.2.2.2.2.2.1, .slice s_.2.2.2.2.2.2.2.1 R.length s_.2.2.2.2.2.2.2.2.1]), (86, .bool b), (14, .pointer (some ⟨s_.2.2.2.2.2.2.2.2.2.2.2, 0, none⟩))]) (fun s_ w' => (BoxAt w' (w.heap.size) 25 (.slice A0 L0.length c0) (.slice B0 T0.length e0)) ∧ (BoxT w' (w.heap.size + 1) 38 v0 v1 v2) ∧ (RefM w' aW bW (.slice AW P'.length cW) (.slice BW R.length eW) PW R) ∧ (BoxAt w' gW 29 (.slice AW P'.length cW) (.slice BW R.length eW)) ∧ (OwnM w' aG bG (.slice AG P'.length cG) (.slice BG R.length eG) (marksV 1 P'.length) (marksT (1 + 3 * (P'.length : Int)) R)) ∧ (BoxAt w' gG 29 (.slice AG P'.length cG) (.slice BG R.length eG)) ∧ (Below w.heap.size w w') ∧ (w14.heap.size ≤ w'.heap.size) ∧ (ReadM w' s_.1 s_.2.1 P0 s_.2.2.1 s_.2.2.2.1 T0) ∧ (simP s_.2.2.2.2.1 P') ∧ (OwnM w' s_.2.2.2.2.2.2.2.2.2.1 s_.2.2.2.2.2.2.2.2.2.2.1 (.slice s_.2.2.2.2.2.1 P'.length s_.2.2.2.2.2.2.1) (.slice s_.2.2.2.2.2.2.2.1 R.length s_.2.2.2.2.2.2.2.2.1) s_.2.2.2.2.1 R) ∧ (w14.heap.size ≤ s_.2.2.2.2.2.2.2.2.2.1) ∧ (s_.2.2.2.2.2.2.2.2.2.2.1 ≤ w'.heap.size) ∧ (BoxAt w' s_.2.2.2.2.2.2.2.2.2.2.2 29 (.slice none 0 0) (.slice none 0 0)) ∧ (w14.heap.size ≤ s_.2.2.2.2.2.2.2.2.2.2.2) ∧ (s_.2.2.2.2.2.2.2.2.2.2.2 < s_.2.2.2.2.2.2.2.2.2.1 ∨ s_.2.2.2.2.2.2.2.2.2.2.1 ≤ s_.2.2.2.2.2.2.2.2.2.2.2)) ?_ ?_
    rotate_left
    · intro hN_m0_v_f_g
      refine join_ (σ := Option Addr × Nat × Option Addr × Nat × List S40 × Option Addr × Nat × Option Addr × Nat × Nat × Nat) 3 #[true, true, true, true, true, true, true, true, false, false, false] (fun s_ => [(81, .agg #[.slice s_.1 P0.length s_.2.1, .slice s_.2.2.1 T0.length s_.2.2.2.1]), (83, .agg #[.float .f32 v0, .float .f32 v1, .float .f32 v2]), (84, .tuple #[.agg #[.slice s_.2.2.2.2.2.1 P'.length s_.2.2.2.2.2.2.1, .slice s_.2.2.2.2.2.2.2.1 R.length s_.2.2.2.2.2.2.2.2.1], .bool b]), (79, .tuple #[.agg #[.slice s_.2.2.2.2.2.1 P'.length s_.2.2.2.2.2.2.1, .slice s_.2.2.2.2.2.2.2.1 R.length s_.2.2.2.2.2.2.2.2.1], .bool b]), (85, .agg #[.slice s_.2.2.2.2.2.1 P'.length s_.2.2.2.2.2.2.1, .slice s_.2.2.2.2.2.2.2.1 R.length s_.2.2.2.2.2.2.2.2.1]), (86, .bool b)]) (fun s_ w' => (BoxAt w' (w.heap.size) 25 (.slice A0 L0.length c0) (.slice B0 T0.length e0)) ∧ (BoxT w' (w.heap.size + 1) 38 v0 v1 v2) ∧ (RefM w' aW bW (.slice AW P'.length cW) (.slice BW R.length eW) PW R) ∧ (BoxAt w' gW 29 (.slice AW P'.length cW) (.slice BW R.length eW)) ∧ (OwnM w' aG bG (.slice AG P'.length cG) (.slice BG R.length eG) (marksV 1 P'.length) (marksT (1 + 3 * (P'.length : Int)) R)) ∧ (BoxAt w' gG 29 (.slice AG P'.length cG) (.slice BG R.length eG)) ∧ (Below w.heap.size w w') ∧ (w14.heap.size ≤ w'.heap.size) ∧ (ReadM w' s_.1 s_.2.1 P0 s_.2.2.1 s_.2.2.2.1 T0) ∧ (simP s_.2.2.2.2.1 P') ∧ (OwnM w' s_.2.2.2.2.2.2.2.2.2.1 s_.2.2.2.2.2.2.2.2.2.2 (.slice s_.2.2.2.2.2.1 P'.length s_.2.2.2.2.2.2.1) (.slice s_.2.2.2.2.2.2.2.1 R.length s_.2.2.2.2.2.2.2.2.1) s_.2.2.2.2.1 R) ∧ (w14.heap.size ≤ s_.2.2.2.2.2.2.2.2.2.1) ∧ (s_.2.2.2.2.2.2.2.2.2.2 ≤ w'.heap.size)) ?_ ?_
      · skip
        rintro ⟨Am0, cm0, Bm0, em0, PH, AH, cH, BH, eH, aH, bH⟩ wn ⟨f_BA0_, f_BV_, f_W, f_BW, f_G, f_BG, f_Kd_, f_hzd, f_d0, f_sx, f_rx, yaH, f_bx_⟩
        replace f_BA0_ : BoxAt wn (w.heap.size) 25 (.slice A0 L0.length c0) (.slice B0 T0.length e0) := f_BA0_
        replace f_BV_ : BoxT wn (w.heap.size + 1) 38 v0 v1 v2 := f_BV_
        replace f_W : RefM wn aW bW (.slice AW P'.length cW) (.slice BW R.length eW) PW R := f_W
        replace f_BW : BoxAt wn gW 29 (.slice AW P'.length cW) (.slice BW R.length eW) := f_BW
        replace f_G : OwnM wn aG bG (.slice AG P'.length cG) (.slice BG R.length eG) (marksV 1 P'.length) (marksT (1 + 3 * (P'.length : Int)) R) := f_G
        replace f_BG : BoxAt wn gG 29 (.slice AG P'.length cG) (.slice BG R.length eG) := f_BG
        replace f_Kd_ : Below w.heap.size w wn := f_Kd_
        replace f_hzd : w14.heap.size ≤ wn.heap.size := f_hzd
        replace f_d0 : ReadM wn Am0 cm0 P0 Bm0 em0 T0 := f_d0
        replace f_sx : simP PH P' := f_sx
        replace f_rx : OwnM wn aH bH (.slice AH P'.length cH) (.slice BH R.length eH) PH R := f_rx
        replace yaH : w14.heap.size ≤ aH := yaH
        replace f_bx_ : bH ≤ wn.heap.size := f_bx_
        refine norm_ (a' := ?_) ?_ ?_
        rotate_left
        · simp only [putAll, Act.put, List.setIfInBounds_toArray, List.set_cons_zero, List.set_cons_succ]; rfl
        refine one_ (i := 8) (N := (some 14)) #[true, true, true, true, true, true, true, true, true, false, false] rfl rfl (by kernel_rfl) (by decide) (fun K hK => ?_)
        refine box_step ?hg (N := 14) ?hd (cs := #[.slice none 0 0, .slice none 0 0]) (t := 29) ?hr ?_; (case hd => rfl); (case hg => rfl); (case hr => first | (go_simp; done) | (go_simp; rfl))
        intro gH hg wz m_gx hb
        have m_gx_ : w14.heap.size ≤ gH := by rw [hg]; exact f_hzd
        have hgnew := hg
        have m_BA0_ := f_BA0_.below hb
        have m_BV_ := f_BV_.below hb
        have m_W := f_W.below hb
        have m_BW := f_BW.below hb
        have m_G := f_G.below hb
        have m_BG := f_BG.below hb
        have m_Kd_ := below_step f_Kd_ hb
        have m_hzd := Nat.le_trans f_hzd hb.size
        have m_d0 := f_d0.below hb
        have m_sx := f_sx
        have m_rx := f_rx.below hb
        have m_ax_ := yaH
        have m_bx_ := Nat.le_trans f_bx_ hb.size
        refine hK.out _ _ ⟨m_BA0_.c0, m_BA0_.c1, m_BV_.c0, m_BV_.c1, m_BV_.c2⟩ (fun hHeld => ?_)
        clear hK K
        refine norm_ (a' := ?_) ?_ ?_
        rotate_left
        · show Act.put _ (some 14) _ = _
          simp only [Act.put, List.setIfInBounds_toArray, List.set_cons_zero, List.set_cons_succ, i64_w, i32_w]
          rfl
        have m_fg := (Or.inr (by rw [hgnew]; exact f_bx_) : gH < aH ∨ bH ≤ gH)
        exact norm_ (by simp only [putAll, Act.put, List.setIfInBounds_toArray, List.set_cons_zero, List.set_cons_succ]) (hN_m0_v_f_g (Am0, cm0, Bm0, em0, PH, AH, cH, BH, eH, aH, bH, gH) _ ⟨m_BA0_, m_BV_, m_W, m_BW, m_G, m_BG, m_Kd_, m_hzd, m_d0, m_sx, m_rx, m_ax_, m_bx_, m_gx, m_gx_, m_fg⟩)
      intro hN_m0_v_f
      refine join_ (σ := Option Addr × Nat × Option Addr × Nat × Nat) 6 #[true, true, true, true, false, false, false, false, true, false, false] (fun s_ => [(81, .agg #[.slice s_.1 P0.length s_.2.1, .slice s_.2.2.1 T0.length s_.2.2.2.1]), (83, .agg #[.float .f32 v0, .float .f32 v1, .float .f32 v2]), (14, .pointer (some ⟨s_.2.2.2.2, 0, none⟩))]) (fun s_ w' => (BoxAt w' (w.heap.size) 25 (.slice A0 L0.length c0) (.slice B0 T0.length e0)) ∧ (BoxT w' (w.heap.size + 1) 38 v0 v1 v2) ∧ (RefM w' aW bW (.slice AW P'.length cW) (.slice BW R.length eW) PW R) ∧ (BoxAt w' gW 29 (.slice AW P'.length cW) (.slice BW R.length eW)) ∧ (OwnM w' aG bG (.slice AG P'.length cG) (.slice BG R.length eG) (marksV 1 P'.length) (marksT (1 + 3 * (P'.length : Int)) R)) ∧ (BoxAt w' gG 29 (.slice AG P'.length cG) (.slice BG R.length eG)) ∧ (Below w.heap.size w w') ∧ (w14.heap.size ≤ w'.heap.size) ∧ (ReadM w' s_.1 s_.2.1 P0 s_.2.2.1 s_.2.2.2.1 T0) ∧ (BoxAt w' s_.2.2.2.2 29 (.slice none 0 0) (.slice none 0 0)) ∧ (w14.heap.size ≤ s_.2.2.2.2)) ?_ ?_
      · skip
        rintro ⟨Am0, cm0, Bm0, em0, gH⟩ wn ⟨f_BA0_, f_BV_, f_W, f_BW, f_G, f_BG, f_Kd_, f_hzd, f_d0, f_gx, ygH⟩
        replace f_BA0_ : BoxAt wn (w.heap.size) 25 (.slice A0 L0.length c0) (.slice B0 T0.length e0) := f_BA0_
        replace f_BV_ : BoxT wn (w.heap.size + 1) 38 v0 v1 v2 := f_BV_
        replace f_W : RefM wn aW bW (.slice AW P'.length cW) (.slice BW R.length eW) PW R := f_W
        replace f_BW : BoxAt wn gW 29 (.slice AW P'.length cW) (.slice BW R.length eW) := f_BW
        replace f_G : OwnM wn aG bG (.slice AG P'.length cG) (.slice BG R.length eG) (marksV 1 P'.length) (marksT (1 + 3 * (P'.length : Int)) R) := f_G
        replace f_BG : BoxAt wn gG 29 (.slice AG P'.length cG) (.slice BG R.length eG) := f_BG
        replace f_Kd_ : Below w.heap.size w wn := f_Kd_
        replace f_hzd : w14.heap.size ≤ wn.heap.size := f_hzd
        replace f_d0 : ReadM wn Am0 cm0 P0 Bm0 em0 T0 := f_d0
        replace f_gx : BoxAt wn gH 29 (.slice none 0 0) (.slice none 0 0) := f_gx
        replace ygH : w14.heap.size ≤ gH := ygH
        refine norm_ (a' := ?_) ?_ ?_
        rotate_left
        · simp only [putAll, Act.put, List.setIfInBounds_toArray, List.set_cons_zero, List.set_cons_succ]; rfl
        refine one_ (i := 4) (N := (some 84)) #[true, true, true, true, true, false, false, false, true, false, false] rfl rfl (by kernel_rfl) (by decide) (fun K hK => ?_)
        refine goes_ Try.func18 (by kernel_rfl) rfl #[.agg #[.slice Am0 P0.length cm0, .slice Bm0 T0.length em0], .agg #[.float .f32 v0, .float .f32 v1, .float .f32 v2]] (by rfl) rfl rfl (by (try simp only [List.map_toArray, List.map_cons, List.map_nil]); first | done | rfl) ?_
        refine (H2.out _ _ _ _ _ f_d0).mono ?_
        rintro E wz ⟨PH, AH, cH, BH, eH, m_sx, rfl, m_rx, hb⟩
        refine ⟨_, rfl, ?_⟩
        obtain ⟨aH, hax⟩ : ∃ a, a = wn.heap.size := ⟨_, rfl⟩
        obtain ⟨bH, hbx⟩ : ∃ b, b = wz.heap.size := ⟨_, rfl⟩
        rw [← hax, ← hbx] at m_rx
        have m_ax_ : w14.heap.size ≤ aH := by rw [hax]; exact f_hzd
        have m_bx_ : bH ≤ wz.heap.size := by rw [hbx]; exact Nat.le_refl _
        have m_BA0_ := f_BA0_.below hb
        have m_BV_ := f_BV_.below hb
        have m_W := f_W.below hb
        have m_BW := f_BW.below hb
        have m_G := f_G.below hb
        have m_BG := f_BG.below hb
        have m_Kd_ := below_step f_Kd_ hb
        have m_hzd := Nat.le_trans f_hzd hb.size
        have m_d0 := f_d0.below hb
        have m_gx := f_gx.below hb
        have m_gx_ := ygH
        refine hK.out _ _ ⟨m_BA0_.c0, m_BA0_.c1, m_BV_.c0, m_BV_.c1, m_BV_.c2⟩ (fun hHeld => ?_)
        clear hK K
        refine norm_ (a' := ?_) ?_ ?_
        rotate_left
        · show Act.put _ (some 84) _ = _
          simp only [Act.put, List.setIfInBounds_toArray, List.set_cons_zero, List.set_cons_succ, i64_w, i32_w]
          rfl
        refine pure_ (i := 5) (N := (some 79)) (v := ?_) (a' := ?_) #[true, true, true, true, true, true, false, false, true, false, false] rfl rfl (by kernel_rfl) (fun _ _ _ h => h) (Or.inl ⟨by rfl, ?_⟩) ?_ ?_
        rotate_left
        · intro w'
          go_simp
          with_reducible rfl
        rotate_left
        · simp only [Act.put, List.setIfInBounds_toArray, List.set_cons_zero, List.set_cons_succ, i64_w, i32_w]; rfl
        refine pure_ (i := 6) (N := (some 85)) (v := ?_) (a' := ?_) #[true, true, true, true, true, true, true, false, true, false, false] rfl rfl (by kernel_rfl) (fun _ _ _ h => h) (Or.inl ⟨by rfl, ?_⟩) ?_ ?_
        rotate_left
        · intro w'
          go_simp
          with_reducible rfl
        rotate_left
        · simp only [Act.put, List.setIfInBounds_toArray, List.set_cons_zero, List.set_cons_succ, i64_w, i32_w]; rfl
        refine pure_ (i := 7) (N := (some 86)) (v := ?_) (a' := ?_) #[true, true, true, true, true, true, true, true, true, false, false] rfl rfl (by kernel_rfl) (fun _ _ _ h => h) (Or.inl ⟨by rfl, ?_⟩) ?_ ?_
        rotate_left
        · intro w'
          go_simp
          with_reducible rfl
        rotate_left
        · simp only [Act.put, List.setIfInBounds_toArray, List.set_cons_zero, List.set_cons_succ, i64_w, i32_w]; rfl
        have m_fg := (Or.inl (by rw [hax]; exact f_gx.lt) : gH < aH ∨ bH ≤ gH)
        exact norm_ (by simp only [putAll, Act.put, List.setIfInBounds_toArray, List.set_cons_zero, List.set_cons_succ]) (hN_m0_v_f_g (Am0, cm0, Bm0, em0, PH, AH, cH, BH, eH, aH, bH, gH) _ ⟨m_BA0_, m_BV_, m_W, m_BW, m_G, m_BG, m_Kd_, m_hzd, m_d0, m_sx, m_rx, m_ax_, m_bx_, m_gx, m_gx_, m_fg⟩)
      intro hN_m0_v_g
      refine join_ (σ := Option Addr × Nat × Option Addr × Nat) 7 #[true, true, true, true, false, false, false, false, false, false, false] (fun s_ => [(81, .agg #[.slice s_.1 P0.length s_.2.1, .slice s_.2.2.1 T0.length s_.2.2.2]), (83, .agg #[.float .f32 v0, .float .f32 v1, .float .f32 v2])]) (fun s_ w' => (BoxAt w' (w.heap.size) 25 (.slice A0 L0.length c0) (.slice B0 T0.length e0)) ∧ (BoxT w' (w.heap.size + 1) 38 v0 v1 v2) ∧ (RefM w' aW bW (.slice AW P'.length cW) (.slice BW R.length eW) PW R) ∧ (BoxAt w' gW 29 (.slice AW P'.length cW) (.slice BW R.length eW)) ∧ (OwnM w' aG bG (.slice AG P'.length cG) (.slice BG R.length eG) (marksV 1 P'.length) (marksT (1 + 3 * (P'.length : Int)) R)) ∧ (BoxAt w' gG 29 (.slice AG P'.length cG) (.slice BG R.length eG)) ∧ (Below w.heap.size w w') ∧ (w14.heap.size ≤ w'.heap.size) ∧ (ReadM w' s_.1 s_.2.1 P0 s_.2.2.1 s_.2.2.2 T0)) ?_ ?_
      · skip
        rintro ⟨Am0, cm0, Bm0, em0⟩ wn ⟨f_BA0_, f_BV_, f_W, f_BW, f_G, f_BG, f_Kd_, f_hzd, f_d0⟩
        replace f_BA0_ : BoxAt wn (w.heap.size) 25 (.slice A0 L0.length c0) (.slice B0 T0.length e0) := f_BA0_
        replace f_BV_ : BoxT wn (w.heap.size + 1) 38 v0 v1 v2 := f_BV_
        replace f_W : RefM wn aW bW (.slice AW P'.length cW) (.slice BW R.length eW) PW R := f_W
        replace f_BW : BoxAt wn gW 29 (.slice AW P'.length cW) (.slice BW R.length eW) := f_BW
        replace f_G : OwnM wn aG bG (.slice AG P'.length cG) (.slice BG R.length eG) (marksV 1 P'.length) (marksT (1 + 3 * (P'.length : Int)) R) := f_G
        replace f_BG : BoxAt wn gG 29 (.slice AG P'.length cG) (.slice BG R.length eG) := f_BG
        replace f_Kd_ : Below w.heap.size w wn := f_Kd_
        replace f_hzd : w14.heap.size ≤ wn.heap.size := f_hzd
        replace f_d0 : ReadM wn Am0 cm0 P0 Bm0 em0 T0 := f_d0
        refine norm_ (a' := ?_) ?_ ?_
        rotate_left
        · simp only [putAll, Act.put, List.setIfInBounds_toArray, List.set_cons_zero, List.set_cons_succ]; rfl
        refine two_ (i := 4) (j := 8) (Ni := (some 84)) (Nj := (some 14)) #[true, true, true, true, true, false, false, false, false, false, false] #[true, true, true, true, false, false, false, false, true, false, false] rfl rfl rfl rfl (by kernel_rfl) (by decide) (by decide) (fun K hK => ?_) (fun K hK => ?_) 
        · skip
          refine goes_ Try.func18 (by kernel_rfl) rfl #[.agg #[.slice Am0 P0.length cm0, .slice Bm0 T0.length em0], .agg #[.float .f32 v0, .float .f32 v1, .float .f32 v2]] (by rfl) rfl rfl (by (try simp only [List.map_toArray, List.map_cons, List.map_nil]); first | done | rfl) ?_
          refine (H2.out _ _ _ _ _ f_d0).mono ?_
          rintro E wz ⟨PH, AH, cH, BH, eH, m_sx, rfl, m_rx, hb⟩
          refine ⟨_, rfl, ?_⟩
          obtain ⟨aH, hax⟩ : ∃ a, a = wn.heap.size := ⟨_, rfl⟩
          obtain ⟨bH, hbx⟩ : ∃ b, b = wz.heap.size := ⟨_, rfl⟩
          rw [← hax, ← hbx] at m_rx
          have m_ax_ : w14.heap.size ≤ aH := by rw [hax]; exact f_hzd
          have m_bx_ : bH ≤ wz.heap.size := by rw [hbx]; exact Nat.le_refl _
          have m_BA0_ := f_BA0_.below hb
          have m_BV_ := f_BV_.below hb
          have m_W := f_W.below hb
          have m_BW := f_BW.below hb
          have m_G := f_G.below hb
          have m_BG := f_BG.below hb
          have m_Kd_ := below_step f_Kd_ hb
          have m_hzd := Nat.le_trans f_hzd hb.size
          have m_d0 := f_d0.below hb
          refine hK.out _ _ ⟨m_BA0_.c0, m_BA0_.c1, m_BV_.c0, m_BV_.c1, m_BV_.c2⟩ (fun hHeld => ?_)
          clear hK K
          refine norm_ (a' := ?_) ?_ ?_
          rotate_left
          · show Act.put _ (some 84) _ = _
            simp only [Act.put, List.setIfInBounds_toArray, List.set_cons_zero, List.set_cons_succ, i64_w, i32_w]
            rfl
          refine pure_ (i := 5) (N := (some 79)) (v := ?_) (a' := ?_) #[true, true, true, true, true, true, false, false, false, false, false] rfl rfl (by kernel_rfl) (fun _ _ _ h => h) (Or.inl ⟨by rfl, ?_⟩) ?_ ?_
          rotate_left
          · intro w'
            go_simp
            with_reducible rfl
          rotate_left
          · simp only [Act.put, List.setIfInBounds_toArray, List.set_cons_zero, List.set_cons_succ, i64_w, i32_w]; rfl
          refine pure_ (i := 6) (N := (some 85)) (v := ?_) (a' := ?_) #[true, true, true, true, true, true, true, false, false, false, false] rfl rfl (by kernel_rfl) (fun _ _ _ h => h) (Or.inl ⟨by rfl, ?_⟩) ?_ ?_
          rotate_left
          · intro w'
            go_simp
            with_reducible rfl
          rotate_left
          · simp only [Act.put, List.setIfInBounds_toArray, List.set_cons_zero, List.set_cons_succ, i64_w, i32_w]; rfl
          refine pure_ (i := 7) (N := (some 86)) (v := ?_) (a' := ?_) #[true, true, true, true, true, true, true, true, false, false, false] rfl rfl (by kernel_rfl) (fun _ _ _ h => h) (Or.inl ⟨by rfl, ?_⟩) ?_ ?_
          rotate_left
          · intro w'
            go_simp
            with_reducible rfl
          rotate_left
          · simp only [Act.put, List.setIfInBounds_toArray, List.set_cons_zero, List.set_cons_succ, i64_w, i32_w]; rfl
          exact norm_ (by simp only [putAll, Act.put, List.setIfInBounds_toArray, List.set_cons_zero, List.set_cons_succ]) (hN_m0_v_f (Am0, cm0, Bm0, em0, PH, AH, cH, BH, eH, aH, bH) _ ⟨m_BA0_, m_BV_, m_W, m_BW, m_G, m_BG, m_Kd_, m_hzd, m_d0, m_sx, m_rx, m_ax_, m_bx_⟩)
        · skip
          refine box_step ?hg (N := 14) ?hd (cs := #[.slice none 0 0, .slice none 0 0]) (t := 29) ?hr ?_; (case hd => rfl); (case hg => rfl); (case hr => first | (go_simp; done) | (go_simp; rfl))
          intro gH hg wz m_gx hb
          have m_gx_ : w14.heap.size ≤ gH := by rw [hg]; exact f_hzd
          have hgnew := hg
          have m_BA0_ := f_BA0_.below hb
          have m_BV_ := f_BV_.below hb
          have m_W := f_W.below hb
          have m_BW := f_BW.below hb
          have m_G := f_G.below hb
          have m_BG := f_BG.below hb
          have m_Kd_ := below_step f_Kd_ hb
          have m_hzd := Nat.le_trans f_hzd hb.size
          have m_d0 := f_d0.below hb
          refine hK.out _ _ ⟨m_BA0_.c0, m_BA0_.c1, m_BV_.c0, m_BV_.c1, m_BV_.c2⟩ (fun hHeld => ?_)
          clear hK K
          refine norm_ (a' := ?_) ?_ ?_
          rotate_left
          · show Act.put _ (some 14) _ = _
            simp only [Act.put, List.setIfInBounds_toArray, List.set_cons_zero, List.set_cons_succ, i64_w, i32_w]
            rfl
          exact norm_ (by simp only [putAll, Act.put, List.setIfInBounds_toArray, List.set_cons_zero, List.set_cons_succ]) (hN_m0_v_g (Am0, cm0, Bm0, em0, gH) _ ⟨m_BA0_, m_BV_, m_W, m_BW, m_G, m_BG, m_Kd_, m_hzd, m_d0, m_gx, m_gx_⟩)
      intro hN_m0_v
      refine join_ (σ := Option Addr × Nat × Option Addr × Nat × Nat) 7 #[true, true, true, false, false, false, false, false, true, false, false] (fun s_ => [(81, .agg #[.slice s_.1 P0.length s_.2.1, .slice s_.2.2.1 T0.length s_.2.2.2.1]), (14, .pointer (some ⟨s_.2.2.2.2, 0, none⟩))]) (fun s_ w' => (BoxAt w' (w.heap.size) 25 (.slice A0 L0.length c0) (.slice B0 T0.length e0)) ∧ (BoxT w' (w.heap.size + 1) 38 v0 v1 v2) ∧ (RefM w' aW bW (.slice AW P'.length cW) (.slice BW R.length eW) PW R) ∧ (BoxAt w' gW 29 (.slice AW P'.length cW) (.slice BW R.length eW)) ∧ (OwnM w' aG bG (.slice AG P'.length cG) (.slice BG R.length eG) (marksV 1 P'.length) (marksT (1 + 3 * (P'.length : Int)) R)) ∧ (BoxAt w' gG 29 (.slice AG P'.length cG) (.slice BG R.length eG)) ∧ (Below w.heap.size w w') ∧ (w14.heap.size ≤ w'.heap.size) ∧ (ReadM w' s_.1 s_.2.1 P0 s_.2.2.1 s_.2.2.2.1 T0) ∧ (BoxAt w' s_.2.2.2.2 29 (.slice none 0 0) (.slice none 0 0)) ∧ (w14.heap.size ≤ s_.2.2.2.2)) ?_ ?_
      · skip
        rintro ⟨Am0, cm0, Bm0, em0, gH⟩ wn ⟨f_BA0_, f_BV_, f_W, f_BW, f_G, f_BG, f_Kd_, f_hzd, f_d0, f_gx, ygH⟩
        replace f_BA0_ : BoxAt wn (w.heap.size) 25 (.slice A0 L0.length c0) (.slice B0 T0.length e0) := f_BA0_
        replace f_BV_ : BoxT wn (w.heap.size + 1) 38 v0 v1 v2 := f_BV_
        replace f_W : RefM wn aW bW (.slice AW P'.length cW) (.slice BW R.length eW) PW R := f_W
        replace f_BW : BoxAt wn gW 29 (.slice AW P'.length cW) (.slice BW R.length eW) := f_BW
        replace f_G : OwnM wn aG bG (.slice AG P'.length cG) (.slice BG R.length eG) (marksV 1 P'.length) (marksT (1 + 3 * (P'.length : Int)) R) := f_G
        replace f_BG : BoxAt wn gG 29 (.slice AG P'.length cG) (.slice BG R.length eG) := f_BG
        replace f_Kd_ : Below w.heap.size w wn := f_Kd_
        replace f_hzd : w14.heap.size ≤ wn.heap.size := f_hzd
        replace f_d0 : ReadM wn Am0 cm0 P0 Bm0 em0 T0 := f_d0
        replace f_gx : BoxAt wn gH 29 (.slice none 0 0) (.slice none 0 0) := f_gx
        replace ygH : w14.heap.size ≤ gH := ygH
        refine norm_ (a' := ?_) ?_ ?_
        rotate_left
        · simp only [putAll, Act.put, List.setIfInBounds_toArray, List.set_cons_zero, List.set_cons_succ]; rfl
        refine one_ (i := 3) (N := (some 83)) #[true, true, true, true, false, false, false, false, true, false, false] rfl rfl (by kernel_rfl) (by decide) (fun K hK => ?_)
        refine goes_ Try.func17 (by kernel_rfl) rfl #[.agg #[.float .f32 v0, .float .f32 v1, .float .f32 v2]] (by rfl) rfl rfl (by (try simp only [List.map_toArray, List.map_cons, List.map_nil]); first | done | rfl) ?_
        refine (laws_toVector v0 v1 v2 _).mono ?_
        rintro E wz ⟨rfl, hb⟩
        refine ⟨_, rfl, ?_⟩
        have m_BA0_ := f_BA0_.below hb
        have m_BV_ := f_BV_.below hb
        have m_W := f_W.below hb
        have m_BW := f_BW.below hb
        have m_G := f_G.below hb
        have m_BG := f_BG.below hb
        have m_Kd_ := below_step f_Kd_ hb
        have m_hzd := Nat.le_trans f_hzd hb.size
        have m_d0 := f_d0.below hb
        have m_gx := f_gx.below hb
        have m_gx_ := ygH
        refine hK.out _ _ ⟨m_BA0_.c0, m_BA0_.c1, m_BV_.c0, m_BV_.c1, m_BV_.c2⟩ (fun hHeld => ?_)
        clear hK K
        refine norm_ (a' := ?_) ?_ ?_
        rotate_left
        · show Act.put _ (some 83) _ = _
          simp only [Act.put, List.setIfInBounds_toArray, List.set_cons_zero, List.set_cons_succ, i64_w, i32_w]
          rfl
        exact norm_ (by simp only [putAll, Act.put, List.setIfInBounds_toArray, List.set_cons_zero, List.set_cons_succ]) (hN_m0_v_g (Am0, cm0, Bm0, em0, gH) _ ⟨m_BA0_, m_BV_, m_W, m_BW, m_G, m_BG, m_Kd_, m_hzd, m_d0, m_gx, m_gx_⟩)
      intro hN_m0_g
      refine join_ (σ := Option Addr × Nat × Option Addr × Nat) 8 #[true, true, true, false, false, false, false, false, false, false, false] (fun s_ => [(81, .agg #[.slice s_.1 P0.length s_.2.1, .slice s_.2.2.1 T0.length s_.2.2.2])]) (fun s_ w' => (BoxAt w' (w.heap.size) 25 (.slice A0 L0.length c0) (.slice B0 T0.length e0)) ∧ (BoxT w' (w.heap.size + 1) 38 v0 v1 v2) ∧ (RefM w' aW bW (.slice AW P'.length cW) (.slice BW R.length eW) PW R) ∧ (BoxAt w' gW 29 (.slice AW P'.length cW) (.slice BW R.length eW)) ∧ (OwnM w' aG bG (.slice AG P'.length cG) (.slice BG R.length eG) (marksV 1 P'.length) (marksT (1 + 3 * (P'.length : Int)) R)) ∧ (BoxAt w' gG 29 (.slice AG P'.length cG) (.slice BG R.length eG)) ∧ (Below w.heap.size w w') ∧ (w14.heap.size ≤ w'.heap.size) ∧ (ReadM w' s_.1 s_.2.1 P0 s_.2.2.1 s_.2.2.2 T0)) ?_ ?_
      · skip
        rintro ⟨Am0, cm0, Bm0, em0⟩ wn ⟨f_BA0_, f_BV_, f_W, f_BW, f_G, f_BG, f_Kd_, f_hzd, f_d0⟩
        replace f_BA0_ : BoxAt wn (w.heap.size) 25 (.slice A0 L0.length c0) (.slice B0 T0.length e0) := f_BA0_
        replace f_BV_ : BoxT wn (w.heap.size + 1) 38 v0 v1 v2 := f_BV_
        replace f_W : RefM wn aW bW (.slice AW P'.length cW) (.slice BW R.length eW) PW R := f_W
        replace f_BW : BoxAt wn gW 29 (.slice AW P'.length cW) (.slice BW R.length eW) := f_BW
        replace f_G : OwnM wn aG bG (.slice AG P'.length cG) (.slice BG R.length eG) (marksV 1 P'.length) (marksT (1 + 3 * (P'.length : Int)) R) := f_G
        replace f_BG : BoxAt wn gG 29 (.slice AG P'.length cG) (.slice BG R.length eG) := f_BG
        replace f_Kd_ : Below w.heap.size w wn := f_Kd_
        replace f_hzd : w14.heap.size ≤ wn.heap.size := f_hzd
        replace f_d0 : ReadM wn Am0 cm0 P0 Bm0 em0 T0 := f_d0
        refine norm_ (a' := ?_) ?_ ?_
        rotate_left
        · simp only [putAll, Act.put, List.setIfInBounds_toArray, List.set_cons_zero, List.set_cons_succ]; rfl
        refine two_ (i := 3) (j := 8) (Ni := (some 83)) (Nj := (some 14)) #[true, true, true, true, false, false, false, false, false, false, false] #[true, true, true, false, false, false, false, false, true, false, false] rfl rfl rfl rfl (by kernel_rfl) (by decide) (by decide) (fun K hK => ?_) (fun K hK => ?_) 
        · skip
          refine goes_ Try.func17 (by kernel_rfl) rfl #[.agg #[.float .f32 v0, .float .f32 v1, .float .f32 v2]] (by rfl) rfl rfl (by (try simp only [List.map_toArray, List.map_cons, List.map_nil]); first | done | rfl) ?_
          refine (laws_toVector v0 v1 v2 _).mono ?_
          rintro E wz ⟨rfl, hb⟩
          refine ⟨_, rfl, ?_⟩
          have m_BA0_ := f_BA0_.below hb
          have m_BV_ := f_BV_.below hb
          have m_W := f_W.below hb
          have m_BW := f_BW.below hb
          have m_G := f_G.below hb
          have m_BG := f_BG.below hb
          have m_Kd_ := below_step f_Kd_ hb
          have m_hzd := Nat.le_trans f_hzd hb.size
          have m_d0 := f_d0.below hb
          refine hK.out _ _ ⟨m_BA0_.c0, m_BA0_.c1, m_BV_.c0, m_BV_.c1, m_BV_.c2⟩ (fun hHeld => ?_)
          clear hK K
          refine norm_ (a' := ?_) ?_ ?_
          rotate_left
          · show Act.put _ (some 83) _ = _
            simp only [Act.put, List.setIfInBounds_toArray, List.set_cons_zero, List.set_cons_succ, i64_w, i32_w]
            rfl
          exact norm_ (by simp only [putAll, Act.put, List.setIfInBounds_toArray, List.set_cons_zero, List.set_cons_succ]) (hN_m0_v (Am0, cm0, Bm0, em0) _ ⟨m_BA0_, m_BV_, m_W, m_BW, m_G, m_BG, m_Kd_, m_hzd, m_d0⟩)
        · skip
          refine box_step ?hg (N := 14) ?hd (cs := #[.slice none 0 0, .slice none 0 0]) (t := 29) ?hr ?_; (case hd => rfl); (case hg => rfl); (case hr => first | (go_simp; done) | (go_simp; rfl))
          intro gH hg wz m_gx hb
          have m_gx_ : w14.heap.size ≤ gH := by rw [hg]; exact f_hzd
          have hgnew := hg
          have m_BA0_ := f_BA0_.below hb
          have m_BV_ := f_BV_.below hb
          have m_W := f_W.below hb
          have m_BW := f_BW.below hb
          have m_G := f_G.below hb
          have m_BG := f_BG.below hb
          have m_Kd_ := below_step f_Kd_ hb
          have m_hzd := Nat.le_trans f_hzd hb.size
          have m_d0 := f_d0.below hb
          refine hK.out _ _ ⟨m_BA0_.c0, m_BA0_.c1, m_BV_.c0, m_BV_.c1, m_BV_.c2⟩ (fun hHeld => ?_)
          clear hK K
          refine norm_ (a' := ?_) ?_ ?_
          rotate_left
          · show Act.put _ (some 14) _ = _
            simp only [Act.put, List.setIfInBounds_toArray, List.set_cons_zero, List.set_cons_succ, i64_w, i32_w]
            rfl
          exact norm_ (by simp only [putAll, Act.put, List.setIfInBounds_toArray, List.set_cons_zero, List.set_cons_succ]) (hN_m0_g (Am0, cm0, Bm0, em0, gH) _ ⟨m_BA0_, m_BV_, m_W, m_BW, m_G, m_BG, m_Kd_, m_hzd, m_d0, m_gx, m_gx_⟩)
      intro hN_m0
      refine join_ (σ := Nat) 8 #[true, false, true, false, false, false, false, false, true, false, false] (fun s_ => [(14, .pointer (some ⟨s_, 0, none⟩))]) (fun s_ w' => (BoxAt w' (w.heap.size) 25 (.slice A0 L0.length c0) (.slice B0 T0.length e0)) ∧ (BoxT w' (w.heap.size + 1) 38 v0 v1 v2) ∧ (RefM w' aW bW (.slice AW P'.length cW) (.slice BW R.length eW) PW R) ∧ (BoxAt w' gW 29 (.slice AW P'.length cW) (.slice BW R.length eW)) ∧ (OwnM w' aG bG (.slice AG P'.length cG) (.slice BG R.length eG) (marksV 1 P'.length) (marksT (1 + 3 * (P'.length : Int)) R)) ∧ (BoxAt w' gG 29 (.slice AG P'.length cG) (.slice BG R.length eG)) ∧ (Below w.heap.size w w') ∧ (w14.heap.size ≤ w'.heap.size) ∧ (BoxAt w' s_ 29 (.slice none 0 0) (.slice none 0 0)) ∧ (w14.heap.size ≤ s_)) ?_ ?_
      · skip
        rintro gH wn ⟨f_BA0_, f_BV_, f_W, f_BW, f_G, f_BG, f_Kd_, f_hzd, f_gx, ygH⟩
        replace f_BA0_ : BoxAt wn (w.heap.size) 25 (.slice A0 L0.length c0) (.slice B0 T0.length e0) := f_BA0_
        replace f_BV_ : BoxT wn (w.heap.size + 1) 38 v0 v1 v2 := f_BV_
        replace f_W : RefM wn aW bW (.slice AW P'.length cW) (.slice BW R.length eW) PW R := f_W
        replace f_BW : BoxAt wn gW 29 (.slice AW P'.length cW) (.slice BW R.length eW) := f_BW
        replace f_G : OwnM wn aG bG (.slice AG P'.length cG) (.slice BG R.length eG) (marksV 1 P'.length) (marksT (1 + 3 * (P'.length : Int)) R) := f_G
        replace f_BG : BoxAt wn gG 29 (.slice AG P'.length cG) (.slice BG R.length eG) := f_BG
        replace f_Kd_ : Below w.heap.size w wn := f_Kd_
        replace f_hzd : w14.heap.size ≤ wn.heap.size := f_hzd
        replace f_gx : BoxAt wn gH 29 (.slice none 0 0) (.slice none 0 0) := f_gx
        replace ygH : w14.heap.size ≤ gH := ygH
        refine norm_ (a' := ?_) ?_ ?_
        rotate_left
        · simp only [putAll, Act.put, List.setIfInBounds_toArray, List.set_cons_zero, List.set_cons_succ]; rfl
        refine one_ (i := 1) (N := (some 81)) #[true, true, true, false, false, false, false, false, true, false, false] rfl rfl (by kernel_rfl) (by decide) (fun K hK => ?_)
        refine goes_ Try.func11 (by kernel_rfl) rfl #[.agg #[.slice A0 L0.length c0, .slice B0 T0.length e0]] (by rfl) rfl rfl (by (try simp only [List.map_toArray, List.map_cons, List.map_nil]); first | done | rfl) ?_
        refine (HTO0.out _ f_Kd_).mono ?_
        rintro E wz ⟨Am0, cm0, Bm0, em0, rfl, hx, hb, hk⟩
        refine ⟨_, rfl, ?_⟩
        have m_d0 := hx.read
        clear hx hk
        have m_BA0_ := f_BA0_.below hb
        have m_BV_ := f_BV_.below hb
        have m_W := f_W.below hb
        have m_BW := f_BW.below hb
        have m_G := f_G.below hb
        have m_BG := f_BG.below hb
        have m_Kd_ := below_step f_Kd_ hb
        have m_hzd := Nat.le_trans f_hzd hb.size
        have m_gx := f_gx.below hb
        have m_gx_ := ygH
        refine hK.out _ _ ⟨m_BA0_.c0, m_BA0_.c1, m_BV_.c0, m_BV_.c1, m_BV_.c2⟩ (fun hHeld => ?_)
        clear hK K
        refine norm_ (a' := ?_) ?_ ?_
        rotate_left
        · show Act.put _ (some 81) _ = _
          simp only [Act.put, List.setIfInBounds_toArray, List.set_cons_zero, List.set_cons_succ, i64_w, i32_w]
          rfl
        exact norm_ (by simp only [putAll, Act.put, List.setIfInBounds_toArray, List.set_cons_zero, List.set_cons_succ]) (hN_m0_g (Am0, cm0, Bm0, em0, gH) _ ⟨m_BA0_, m_BV_, m_W, m_BW, m_G, m_BG, m_Kd_, m_hzd, m_d0, m_gx, m_gx_⟩)
      intro hN_g
      refine two_ (i := 1) (j := 8) (Ni := (some 81)) (Nj := (some 14)) #[true, true, true, false, false, false, false, false, false, false, false] #[true, false, true, false, false, false, false, false, true, false, false] rfl rfl rfl rfl (by kernel_rfl) (by decide) (by decide) (fun K hK => ?_) (fun K hK => ?_) 
      · skip
        refine goes_ Try.func11 (by kernel_rfl) rfl #[.agg #[.slice A0 L0.length c0, .slice B0 T0.length e0]] (by rfl) rfl rfl (by (try simp only [List.map_toArray, List.map_cons, List.map_nil]); first | done | rfl) ?_
        refine (HTO0.out _ Kd_.out).mono ?_
        rintro E wz ⟨Am0, cm0, Bm0, em0, rfl, hx, hb, hk⟩
        refine ⟨_, rfl, ?_⟩
        have m_d0 := hx.read
        clear hx hk
        have m_BA0_ := BA0_d.out.below hb
        have m_BV_ := BV_d.out.below hb
        have m_W := Wd.out.below hb
        have m_BW := BWd.out.below hb
        have m_G := Gd.out.below hb
        have m_BG := BGd.out.below hb
        have m_Kd_ := below_step Kd_.out hb
        have m_hzd := Nat.le_trans hzd hb.size
        refine hK.out _ _ ⟨m_BA0_.c0, m_BA0_.c1, m_BV_.c0, m_BV_.c1, m_BV_.c2⟩ (fun hHeld => ?_)
        clear hK K
        refine norm_ (a' := ?_) ?_ ?_
        rotate_left
        · show Act.put _ (some 81) _ = _
          simp only [Act.put, List.setIfInBounds_toArray, List.set_cons_zero, List.set_cons_succ, i64_w, i32_w]
          rfl
        exact norm_ (by simp only [putAll, Act.put, List.setIfInBounds_toArray, List.set_cons_zero, List.set_cons_succ]) (hN_m0 (Am0, cm0, Bm0, em0) _ ⟨m_BA0_, m_BV_, m_W, m_BW, m_G, m_BG, m_Kd_, m_hzd, m_d0⟩)
      · skip
        refine box_step ?hg (N := 14) ?hd (cs := #[.slice none 0 0, .slice none 0 0]) (t := 29) ?hr ?_; (case hd => rfl); (case hg => rfl); (case hr => first | (go_simp; done) | (go_simp; rfl))
        intro gH hg wz m_gx hb
        have m_gx_ : w14.heap.size ≤ gH := by rw [hg]; exact hzd
        have hgnew := hg
        have m_BA0_ := BA0_d.out.below hb
        have m_BV_ := BV_d.out.below hb
        have m_W := Wd.out.below hb
        have m_BW := BWd.out.below hb
        have m_G := Gd.out.below hb
        have m_BG := BGd.out.below hb
        have m_Kd_ := below_step Kd_.out hb
        have m_hzd := Nat.le_trans hzd hb.size
        refine hK.out _ _ ⟨m_BA0_.c0, m_BA0_.c1, m_BV_.c0, m_BV_.c1, m_BV_.c2⟩ (fun hHeld => ?_)
        clear hK K
        refine norm_ (a' := ?_) ?_ ?_
        rotate_left
        · show Act.put _ (some 14) _ = _
          simp only [Act.put, List.setIfInBounds_toArray, List.set_cons_zero, List.set_cons_succ, i64_w, i32_w]
          rfl
        exact norm_ (by simp only [putAll, Act.put, List.setIfInBounds_toArray, List.set_cons_zero, List.set_cons_succ]) (hN_g (gH) _ ⟨m_BA0_, m_BV_, m_W, m_BW, m_G, m_BG, m_Kd_, m_hzd, m_gx, m_gx_⟩)
    rintro ⟨Am0, cm0, Bm0, em0, PH, AH, cH, BH, eH, aH, bH, gH⟩ w15 ⟨f_BA0_, f_BV_, f_W, f_BW, f_G, f_BG, f_Kd_, f_hzd, f_d0, f_sx, f_rx, yaH, f_bx_, f_gx, ygH, yfH⟩
    replace f_BA0_ : BoxAt w15 (w.heap.size) 25 (.slice A0 L0.length c0) (.slice B0 T0.length e0) := f_BA0_
    replace f_BV_ : BoxT w15 (w.heap.size + 1) 38 v0 v1 v2 := f_BV_
    replace f_W : RefM w15 aW bW (.slice AW P'.length cW) (.slice BW R.length eW) PW R := f_W
    replace f_BW : BoxAt w15 gW 29 (.slice AW P'.length cW) (.slice BW R.length eW) := f_BW
    replace f_G : OwnM w15 aG bG (.slice AG P'.length cG) (.slice BG R.length eG) (marksV 1 P'.length) (marksT (1 + 3 * (P'.length : Int)) R) := f_G
    replace f_BG : BoxAt w15 gG 29 (.slice AG P'.length cG) (.slice BG R.length eG) := f_BG
    replace f_Kd_ : Below w.heap.size w w15 := f_Kd_
    replace f_hzd : w14.heap.size ≤ w15.heap.size := f_hzd
    replace f_d0 : ReadM w15 Am0 cm0 P0 Bm0 em0 T0 := f_d0
    replace f_sx : simP PH P' := f_sx
    replace f_rx : OwnM w15 aH bH (.slice AH P'.length cH) (.slice BH R.length eH) PH R := f_rx
    replace yaH : w14.heap.size ≤ aH := yaH
    replace f_bx_ : bH ≤ w15.heap.size := f_bx_
    replace f_gx : BoxAt w15 gH 29 (.slice none 0 0) (.slice none 0 0) := f_gx
    replace ygH : w14.heap.size ≤ gH := ygH
    replace yfH : gH < aH ∨ bH ≤ gH := yfH
    refine norm_ (a' := ?_) ?_ ?_
    rotate_left
    · simp only [putAll, Act.put, List.setIfInBounds_toArray, List.set_cons_zero, List.set_cons_succ]; rfl
    have hg0 := f_gx.c0; have hg1 := f_gx.c1; have hgz0 := blk_frozen f_gx 0; have hgz1 := blk_frozen f_gx 1; have hgl := f_gx.lt
    have hk := kept_box (w := w15) (g := gH) (.slice AH P'.length cH) (.slice BH R.length eH)
    have hkb := blk_put (blk_put f_gx 0 (.slice AH P'.length cH) rfl) 1 (.slice BH R.length eH) rfl
    have hkK := below_set (j := 1) (v := (.slice BH R.length eH)) (below_set (j := 0) (v := (.slice AH P'.length cH)) f_Kd_ (by omega : w.heap.size ≤ gH)) (by omega : w.heap.size ≤ gH)
    have hBA0_ : BoxAt ((w15.setCell ⟨gH, 0, none⟩ (.slice AH P'.length cH)).setCell ⟨gH, 1, none⟩ (.slice BH R.length eH)) (w.heap.size) 25 (.slice A0 L0.length c0) (.slice B0 T0.length e0) := f_BA0_.kept hk (by omega)
    have hBV_ : BoxT ((w15.setCell ⟨gH, 0, none⟩ (.slice AH P'.length cH)).setCell ⟨gH, 1, none⟩ (.slice BH R.length eH)) (w.heap.size + 1) 38 v0 v1 v2 := f_BV_.kept hk (by omega)
    have hW : RefM ((w15.setCell ⟨gH, 0, none⟩ (.slice AH P'.length cH)).setCell ⟨gH, 1, none⟩ (.slice BH R.length eH)) aW bW (.slice AW P'.length cW) (.slice BW R.length eW) PW R := f_W.kept hk (by omega)
    have hBW : BoxAt ((w15.setCell ⟨gH, 0, none⟩ (.slice AH P'.length cH)).setCell ⟨gH, 1, none⟩ (.slice BH R.length eH)) gW 29 (.slice AW P'.length cW) (.slice BW R.length eW) := f_BW.kept hk (by omega)
    have hG : OwnM ((w15.setCell ⟨gH, 0, none⟩ (.slice AH P'.length cH)).setCell ⟨gH, 1, none⟩ (.slice BH R.length eH)) aG bG (.slice AG P'.length cG) (.slice BG R.length eG) (marksV 1 P'.length) (marksT (1 + 3 * (P'.length : Int)) R) := f_G.kept hk (by omega)
    have hBG : BoxAt ((w15.setCell ⟨gH, 0, none⟩ (.slice AH P'.length cH)).setCell ⟨gH, 1, none⟩ (.slice BH R.length eH)) gG 29 (.slice AG P'.length cG) (.slice BG R.length eG) := f_BG.kept hk (by omega)
    have hrx := f_rx.kept hk (by omega)
    refine one_ (i := 9) (N := none) #[true, true, true, true, true, true, true, true, true, true, false] rfl rfl (by kernel_rfl) (by decide) (fun K hK => ?_)
    refine skip_ (w1 := ?_) (by rfl) rfl ?_ ?_
    rotate_left
    · go_simp
      rfl
    refine hK.out _ _ ⟨BoxAt.c0 hBA0_, BoxAt.c1 hBA0_, BoxT.c0 hBV_, BoxT.c1 hBV_, BoxT.c2 hBV_⟩ (fun hHeld => ?_)
    clear hK K
    refine pure_ (i := 10) (N := (some 15)) (v := ?_) (a' := ?_) #[true, true, true, true, true, true, true, true, true, true, true] rfl rfl (by kernel_rfl) (fun _ _ _ h => h) (Or.inl ⟨by rfl, ?_⟩) ?_ ?_
    rotate_left
    · intro w'
      go_simp
      with_reducible rfl
    rotate_left
    · simp only [Act.put, List.setIfInBounds_toArray, List.set_cons_zero, List.set_cons_succ, i64_w, i32_w]; rfl
    refine done_ (by kernel_rfl) ?_
    obtain ⟨w16, hw⟩ : ∃ W, W = ((w15.setCell ⟨gH, 0, none⟩ (.slice AH P'.length cH)).setCell ⟨gH, 1, none⟩ (.slice BH R.length eH)) := ⟨_, rfl⟩
    have hszk : w16.heap.size = w15.heap.size := by rw [hw]; simp [World.setCell]
    rw [← hw] at hBA0_ hBV_ hW hBW hG hBG hrx hkb hkK ⊢
    have BA0_16 := Lib.hid hBA0_
    have ba0_c16 := BA0_16.out.c0
    have ba0_d16 := BA0_16.out.c1
    have BV_16 := Lib.hid hBV_
    have bv_c16 := BV_16.out.c0
    have bv_d16 := BV_16.out.c1
    have bv_e16 := BV_16.out.c2
    have W16 := Lib.hid hW
    have BW16 := Lib.hid hBW
    have bwc16 := BW16.out.c0
    have bwd16 := BW16.out.c1
    have G16 := Lib.hid hG
    have BG16 := Lib.hid hBG
    have bgc16 := BG16.out.c0
    have bgd16 := BG16.out.c1
    have H16 := Lib.hid hrx; have SH16 := Lib.hid f_sx
    have BH16 := Lib.hid (show BoxAt w16 gH 29 (.slice AH P'.length cH) (.slice BH R.length eH) from hkb); have bhc16 := BH16.out.c0; have bhd16 := BH16.out.c1
    have K16 := Lib.hid hkK; have z16 : w14.heap.size ≤ w16.heap.size := by rw [hszk]; exact f_hzd
    have y16 : gH < w16.heap.size := by rw [hszk]; exact hgl
    have y16b : bH ≤ w16.heap.size := by rw [hszk]; exact f_bx_
    clear hw hg0 hg1 hgz0 hgz1 hgl hk hkb hkK hrx hszk hHeld hBA0_ hBV_ hW hBW hG hBG f_BA0_ f_BV_ f_W f_BW f_G f_BG f_Kd_ f_hzd f_sx f_rx f_gx f_bx_ f_d0
    go_wp2_with (first
      | (go_at_call 13; refine (eqr_step P' _ _ R SH16.out SW3.out hp1 HR1.out HR2.out _ _ _ _ _ _ _ _ _ (OwnM.readn SH16.out H16.out) (RefM.readn SW3.out W16.out)).mono ?_; rintro E w17 ⟨rfl, hb⟩; have z17 := hb.size; have BA0_17 := Lib.hid (BA0_16.out.below hb); have ba0_c17 := BA0_17.out.c0; have ba0_d17 := BA0_17.out.c1; (try clear ba0_c16 ba0_d16); have BV_17 := Lib.hid (BV_16.out.below hb); have bv_c17 := BV_17.out.c0; have bv_d17 := BV_17.out.c1; have bv_e17 := BV_17.out.c2; (try clear bv_c16 bv_d16 bv_e16); have W17 := Lib.hid (W16.out.below hb); have BW17 := Lib.hid (BW16.out.below hb); have bwc17 := BW17.out.c0; have bwd17 := BW17.out.c1; (try clear bwc16 bwd16); have G17 := Lib.hid (G16.out.below hb); have BG17 := Lib.hid (BG16.out.below hb); have bgc17 := BG17.out.c0; have bgd17 := BG17.out.c1; (try clear bgc16 bgd16); have H17 := Lib.hid (H16.out.below hb); have BH17 := Lib.hid (BH16.out.below hb); have bhc17 := BH17.out.c0; have bhd17 := BH17.out.c1; (try clear bhc16 bhd16); have K17 := Lib.hid (below_then K16.out hb K16.out.size); clear hb; skip)
      | (go_at_call 15; refine (heldM_step P' R hp1 HR1.out HR2.out 1 (by omega) (by omega) _ _ _ _ _ _ _ G17.out).mono ?_; rintro E w18 ⟨rfl, hb⟩; have z18 := hb.size; have BA0_18 := Lib.hid (BA0_17.out.below hb); have ba0_c18 := BA0_18.out.c0; have ba0_d18 := BA0_18.out.c1; (try clear ba0_c17 ba0_d17); have BV_18 := Lib.hid (BV_17.out.below hb); have bv_c18 := BV_18.out.c0; have bv_d18 := BV_18.out.c1; have bv_e18 := BV_18.out.c2; (try clear bv_c17 bv_d17 bv_e17); have W18 := Lib.hid (W17.out.below hb); have BW18 := Lib.hid (BW17.out.below hb); have bwc18 := BW18.out.c0; have bwd18 := BW18.out.c1; (try clear bwc17 bwd17); have G18 := Lib.hid (G17.out.below hb); have BG18 := Lib.hid (BG17.out.below hb); have bgc18 := BG18.out.c0; have bgd18 := BG18.out.c1; (try clear bgc17 bgd17); have H18 := Lib.hid (H17.out.below hb); have BH18 := Lib.hid (BH17.out.below hb); have bhc18 := BH18.out.c0; have bhd18 := BH18.out.c1; (try clear bhc17 bhd17); have K18 := Lib.hid (below_then K17.out hb K17.out.size); clear hb; skip)
      | fail)
    go_ret
    exact ⟨rfl, K18.out⟩

end Go.Proofs.Ytlendjpmblapkab
namespace Go.Proofs.Ytlendjpmblapkab
open Go.ChangeShapes Go.WideShapes Go.ChangeAt Go.RowKit Go.Deep
open Go.ChangeMaps (open_string shut_string)

/-- A row of cells that can be read from A on; nil has none. -/
def RowIn (w : World) (A : Option Addr) (cs : List Value) : Prop :=
  (A = none ∧ cs = []) ∨ ∃ b off, A = some ⟨b, off, none⟩ ∧ b < w.heap.size ∧ ∀ i v, cs[i]? = some v → w.cell? ⟨b, off + i, none⟩ = some v

section
variable {H : Type} {enc : TypeId × Value → H} {P : Program} {w : World} {base : Nat} {spare : Nat → Bool} {held : Bool}

theorem flt_lt {k : FloatKind} {b : Nat} (h : (Lit.float k b).wf = true) : b < 2 ^ k.format.width := by
  cases k
  · show b < 4294967296; simpa [Lit.wf] using h
  · show b < 18446744073709551616; simpa [Lit.wf] using h

theorem op_float {r : Reach} {b0 : Nat} {t : TypeId} {k : FloatKind} {v : Value} {d : DataW H} {ps : List MemPlace} (ht : P.underlying t = some (.float k)) (hval : Value.okWide P w r b0 t v) (hd : DataW.Trod enc P w base spare held t v d ps) :
    ∃ b, b < 2 ^ k.format.width ∧ v = .float k b := by
  obtain ⟨b, rfl, _, _, hw⟩ := open_float ht hval hd
  exact ⟨b, flt_lt hw, rfl⟩

theorem op_int {r : Reach} {b0 : Nat} {t : TypeId} {k : IntKind} {v : Value} {d : DataW H} {ps : List MemPlace} (ht : P.underlying t = some (.int k)) (hval : Value.okWide P w r b0 t v) (hd : DataW.Trod enc P w base spare held t v d ps) :
    ∃ n, (k.min ≤ n ∧ n ≤ k.max) ∧ v = .int k n := by
  obtain ⟨n, rfl, _, _, hw⟩ := open_int ht hval hd
  exact ⟨n, by simpa [Lit.wf] using hw, rfl⟩

theorem op_string {r : Reach} {b0 : Nat} {t : TypeId} {v : Value} {d : DataW H} {ps : List MemPlace} (ht : P.underlying t = some .string) (hval : Value.okWide P w r b0 t v) (hd : DataW.Trod enc P w base spare held t v d ps) :
    ∃ s : ByteArray, s.size ≤ maxLen ∧ v = .string s := by
  obtain ⟨s, rfl, _, _, hw⟩ := open_string ht hval hd
  exact ⟨s, hw, rfl⟩

theorem trod_float {t : TypeId} {k : FloatKind} {n : Nat} {v : Value} {x : DataW H × List MemPlace} (ht : P.underlying t = some (.float k)) (h : DataW.trod enc P w base spare held n t [v] = some x) :
    ∃ b, b < 2 ^ k.format.width ∧ v = .float k b := by
  cases n with
  | zero => simp [DataW.trod] at h
  | succ n =>
    simp only [DataW.trod, ht] at h
    cases v <;> simp at h
    rename_i k' b
    obtain ⟨⟨rfl, hw⟩, _⟩ := h
    exact ⟨b, flt_lt hw, rfl⟩

theorem op_vec {r : Reach} {b0 : Nat} {t f : TypeId} {F : Array Field} {v : Value} {d : DataW H} {p : List MemPlace} (hs : P.underlying t = some (.struct F)) (hf : P.underlying f = some (.float .f32))
    (hF : (F.map (·.type)) = #[f, f, f]) (hone0 : oneCellFields P F = true) (hC : P.cellsOf t = 3)
    (hv : Value.okWide P w r b0 t v) (h : DataW.Trod enc P w base spare held t v d p) :
    ∃ x y z : Nat, x < 2 ^ 32 ∧ y < 2 ^ 32 ∧ z < 2 ^ 32 ∧ v = .agg #[.float .f32 x, .float .f32 y, .float .f32 z] := by
  obtain ⟨F⟩ := F
  have hl : F.length = 3 := by simpa using congrArg Array.size hF
  match F, hl with
  | [f0, f1, f2], _ =>
    simp at hF
    obtain ⟨e0, e1, e2⟩ := hF
    have hone : oneCellFields P #[f0, f1, f2] = true := hone0
    obtain ⟨v0, v1, v2, y0, y1, y2, n, rfl, _, _, t0, t1, t2⟩ := Joins.open_agg3 hs hone hC hv h
    rw [e0] at t0; rw [e1] at t1; rw [e2] at t2
    obtain ⟨x, hx, rfl⟩ := trod_float hf t0
    obtain ⟨y, hy, rfl⟩ := trod_float hf t1
    obtain ⟨z, hz, rfl⟩ := trod_float hf t2
    exact ⟨x, y, z, hx, hy, hz, rfl⟩
end
end Go.Proofs.Ytlendjpmblapkab
namespace Go.Proofs.Ytlendjpmblapkab
open Go.ChangeShapes Go.WideShapes Go.ChangeAt Go.RowKit Go.Deep Go.Proofs.YtlendjpmblapkabW.PrintWords Go.Proofs.Ytlendjpmblapkab.PMesh Msh
set_option linter.unusedVariables false

section
variable {H : Type} {enc : TypeId × Value → H} {P : Program} {w : World} {base : Nat} {held : Bool}

/-- A slice whose elements are opened one by one. -/
theorem op_rows {α : Type} (d : Kd α) (ok : α → Prop) {t e : TypeId} (ht : P.underlying t = some (.slice e)) (hC : P.cellsOf e = d.sz)
    (hel : ∀ (n : Nat) (cs : List Value) (y : DataW H × List MemPlace), DataW.trod enc P w base (fun _ => true) held n e cs = some y → ∃ x : α, d.K w x cs ∧ ok x)
    {fuel : Nat} {cs : List Value} {y : DataW H × List MemPlace} (h : DataW.trod enc P w base (fun _ => true) held fuel t cs = some y) :
    ∃ (A : Option Addr) (c : Nat) (xs : List α), cs = [.slice A xs.length c] ∧ xs.length ≤ c ∧ xs.length ≤ 9223372036854775807 ∧ Kd.C d w A xs.length xs ∧ ∀ x ∈ xs, ok x := by
  rcases open_slice ht h with ⟨rfl, _⟩ | ⟨a, len, cap, m, n, D, Pl, rfl, _, hl, hm, hmm, hyy, hx⟩
  · exact ⟨none, 0, [], rfl, Nat.le_refl _, by simp, Kd.C_nil d w, fun x hx => by simp at hx⟩
  · have hml : len ≤ m := by rw [hmm]; split <;> omega
    have each : ∀ i, i < len → ∃ x : α, (∃ cs', w.cells? base (a.add (i * d.sz)) d.sz = some cs' ∧ d.K w x cs') ∧ ok x := by
      intro i hi
      obtain ⟨cs', hc, ht'⟩ := hx i (by omega)
      rw [hC] at hc
      obtain ⟨x, hk, ho⟩ := hel n cs' _ ht'
      exact ⟨x, ⟨cs', hc, hk⟩, ho⟩
    obtain ⟨xs, hxl, hxs⟩ : ∃ xs : List α, xs.length = len ∧ ∀ i x, xs[i]? = some x → (∃ cs', w.cells? base (a.add (i * d.sz)) d.sz = some cs' ∧ d.K w x cs') ∧ ok x := by
      clear hx hml hmm hl hm hyy h
      induction len with
      | zero => exact ⟨[], rfl, fun i x hx => by simp at hx⟩
      | succ k ih =>
        obtain ⟨xs, hl, hx⟩ := ih (fun i hi => each i (by omega))
        obtain ⟨z, hz⟩ := each k (by omega)
        refine ⟨xs ++ [z], by simp [hl], fun i x hix => ?_⟩
        rcases Nat.lt_or_ge i xs.length with h' | h'
        · rw [List.getElem?_append_left h'] at hix
          exact hx i x hix
        · rw [List.getElem?_append_right h'] at hix
          have : i - xs.length = 0 := by
            rcases Nat.eq_zero_or_pos (i - xs.length) with h0 | h0
            · exact h0
            · rw [List.getElem?_eq_none (by simp; omega)] at hix; cases hix
          obtain rfl : i = k := by omega
          rw [this] at hix
          cases hix
          exact hz
    have hM : maxLen = 9223372036854775807 := rfl
    subst hxl
    refine ⟨some a, cap, xs, rfl, hl, by omega, ⟨rfl, by omega, fun _ => ⟨a, rfl, fun j p hj => ?_⟩⟩, fun x hxm => ?_⟩
    · obtain ⟨⟨cs', hc, hk⟩, _⟩ := hxs j p hj
      obtain ⟨_, hcl, hat⟩ := World.cells?_some hc
      refine ⟨cs', hcl, hk, fun i u hu => ?_⟩
      have hi : i < d.sz := by
        rcases Nat.lt_or_ge i cs'.length with h' | h'
        · omega
        · rw [List.getElem?_eq_none h'] at hu; cases hu
      have := hat i hi
      rw [Go.Deep.add_add] at this
      rw [this, hu]
    · obtain ⟨i, hi, rfl⟩ := List.getElem_of_mem hxm
      exact (hxs i _ (List.getElem?_eq_getElem hi)).2

theorem trod_int1 {t : TypeId} {k : IntKind} {n : Nat} {cs : List Value} {x : DataW H × List MemPlace} (ht : P.underlying t = some (.int k)) (hC : P.cellsOf t = 1) (h : DataW.trod enc P w base (fun _ => true) held n t cs = some x) :
    ∃ b : Int, cs = [.int k b] ∧ (Lit.int k b).wf = true := by
  cases n with
  | zero => simp [DataW.trod] at h
  | succ n =>
    simp only [DataW.trod, ht] at h
    match cs with
    | [] => simp at h
    | [v] =>
      cases v <;> simp at h
      rename_i k' b
      obtain ⟨⟨rfl, hw⟩, _⟩ := h
      exact ⟨b, rfl, hw⟩
    | _ :: _ :: _ => simp at h

theorem op_tris {t e q : TypeId} (ht : P.underlying t = some (.slice e)) (he : P.underlying e = some (.slice q)) (hq : P.underlying q = some (.int .i64)) (ce : P.cellsOf e = 1) (cq : P.cellsOf q = 1)
    {fuel : Nat} {cs : List Value} {y : DataW H × List MemPlace} (h : DataW.trod enc P w base (fun _ => true) held fuel t cs = some y) :
    ∃ (A : Option Addr) (c : Nat) (T : List (List Int)), cs = [.slice A T.length c] ∧ T.length ≤ c ∧ T.length ≤ 9223372036854775807 ∧ Kd.C (Kd.slice q (Kd.int .i64)) w A T.length T ∧ ∀ t ∈ T, t.length ≤ 9223372036854775807 := by
  refine op_rows (Kd.slice q (Kd.int .i64)) (fun t => t.length ≤ 9223372036854775807) ht ce (fun n cs y hy => ?_) h
  obtain ⟨A, c, xs, rfl, hc, hl, hC, _⟩ := op_rows (Kd.int .i64) (fun _ => True) he cq (fun n cs y hy => by
    obtain ⟨b, rfl, _⟩ := trod_int1 hq cq hy
    exact ⟨b, rfl, trivial⟩) hy
  exact ⟨xs, ⟨A, c, rfl, hc, hC⟩, hl⟩

theorem op_vrow {t f : TypeId} {f0 f1 f2 : Field} {n : Nat} {cs : List Value} {x : DataW H × List MemPlace} (hs : P.underlying t = some (.struct #[f0, f1, f2])) (hf : P.underlying f = some (.float .f32)) (e0 : f0.type = f) (e1 : f1.type = f) (e2 : f2.type = f)
    (hone : oneCellFields P #[f0, f1, f2] = true) (hC : P.cellsOf t = 3) (h : DataW.trod enc P w base (fun _ => true) held n t cs = some x) :
    ∃ a b c : Nat, a < 4294967296 ∧ b < 4294967296 ∧ c < 4294967296 ∧ cs = [.float .f32 a, .float .f32 b, .float .f32 c] := by
  obtain ⟨y0, y1, y2, m, _, hl, t0, t1, t2⟩ := trod_struct3 hs h
  rw [hC] at hl
  obtain ⟨o0, k0⟩ := hone_of hone 0 f0 rfl
  obtain ⟨o1, k1⟩ := hone_of hone 1 f1 rfl
  obtain ⟨o2, k2⟩ := hone_of hone 2 f2 rfl
  match cs, hl with
  | [v0, v1, v2], _ =>
    rw [o0, k0, e0] at t0
    rw [o1, k1, e1] at t1
    rw [o2, k2, e2] at t2
    obtain ⟨a, ha, rfl⟩ := trod_float (v := v0) hf t0
    obtain ⟨b, hb, rfl⟩ := trod_float (v := v1) hf t1
    obtain ⟨c, hc, rfl⟩ := trod_float (v := v2) hf t2
    exact ⟨a, b, c, ha, hb, hc, rfl⟩

theorem op_mesh {r : Reach} {b0 : Nat} {t tp tv tf tt ts ti : TypeId} {F G : Array Field} {v : Value} {d : DataW H} {p : List MemPlace}
    (hs : P.underlying t = some (.struct F)) (hF : (F.map (·.type)) = #[tp, tt]) (hone : oneCellFields P F = true) (hC : P.cellsOf t = 2)
    (hp : P.underlying tp = some (.slice tv)) (hv : P.underlying tv = some (.struct G)) (hG : (G.map (·.type)) = #[tf, tf, tf]) (honeG : oneCellFields P G = true) (hCv : P.cellsOf tv = 3) (hf : P.underlying tf = some (.float .f32))
    (ht : P.underlying tt = some (.slice ts)) (hts : P.underlying ts = some (.slice ti)) (hti : P.underlying ti = some (.int .i64)) (cs1 : P.cellsOf ts = 1) (ci : P.cellsOf ti = 1)
    (hval : Value.okWide P w r b0 t v) (h : DataW.Trod enc P w base (fun _ => true) held t v d p) :
    ∃ (A : Option Addr) (c : Nat) (L : List S38) (B : Option Addr) (e : Nat) (T : List (List Int)), v = .agg #[.slice A L.length c, .slice B T.length e] ∧ Kd.C k38 w A L.length L ∧ L.length ≤ c ∧ Kd.C (Kd.slice ti (Kd.int .i64)) w B T.length T ∧ T.length ≤ e ∧ MeshOk L T := by
  obtain ⟨F⟩ := F
  obtain ⟨G⟩ := G
  have hl : F.length = 2 := by simpa using congrArg Array.size hF
  have hlG : G.length = 3 := by simpa using congrArg Array.size hG
  match F, hl, G, hlG with
  | [f0, f1], _, [g0, g1, g2], _ =>
    simp at hF hG
    obtain ⟨e0, e1⟩ := hF
    obtain ⟨e2, e3, e4⟩ := hG
    obtain ⟨v0, v1, y0, y1, n, rfl, _, _, t0, t1⟩ := Joins.open_agg2 hs hone hC hval h
    rw [e0] at t0
    rw [e1] at t1
    obtain ⟨A, c, L, hA, hc, hL, hCL, hok⟩ := op_rows k38 (fun x => x.f0 < 4294967296 ∧ x.f1 < 4294967296 ∧ x.f2 < 4294967296) hp hCv (fun n cs y hy => by
      obtain ⟨a, b, c, ha, hb, hc, rfl⟩ := op_vrow hv hf e2 e3 e4 honeG hCv hy
      exact ⟨⟨a, b, c⟩, k38_mk w ⟨a, b, c⟩, ha, hb, hc⟩) t0
    obtain ⟨B, e, T, hB, he, hT, hCT, hr⟩ := op_tris ht hts hti cs1 ci t1
    cases hA
    cases hB
    exact ⟨A, c, L, B, e, T, rfl, hCL, hc, hCT, he, ⟨hL, hT, hr, hok⟩⟩
end
end Go.Proofs.Ytlendjpmblapkab
