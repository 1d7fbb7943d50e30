/-
  The proof's texts, one behind the other: XMjoinl XOpen XMopen.
-/
import Derived.Test.YtlendjpmblapkabMLExactJoinMeshesb
import Derived.Deep.RegionHeld3
import Derived.Laws.Cover2
import Derived.ProofKit
import Derived.WalkKit
import Derived.OpenShut
import Derived.Lib.SmallJoins
import Derived.Deep.Slices
import Derived.ChangeSame
namespace Go.Proofs.Ytlendjpmblapkab
open Fl Go.RowKit Go.Proofs.YtlendjpmblapkabW.PrintWords Go.Proofs.YtlendjpmblapkabW.PrintLast Go.Proofs.YtlendjpmblapkabW.PrintMore Go.Proofs.Ytlendjpmblapkab.PMesh Msh
set_option linter.unusedVariables false
set_option linter.unusedSimpArgs false

set_option maxHeartbeats 8000000 in
set_option maxRecDepth 100000 in
theorem fnExactJoinMeshes_walk (w : World) (A0 : Option Addr) (c0 : Nat) (L0 : List S38) (B0 : Option Addr) (e0 : Nat) (T0 : List (List Int)) (hL0 : Kd.C k38 w A0 L0.length L0) (hc0 : L0.length ≤ c0) (hT0 : Kd.C (Kd.slice 2 (Kd.int .i64)) w B0 T0.length T0) (he0 : T0.length ≤ e0) (ok0 : MeshOk L0 T0) (A1 : Option Addr) (c1 : Nat) (L1 : List S38) (B1 : Option Addr) (e1 : Nat) (T1 : List (List Int)) (hL1 : Kd.C k38 w A1 L1.length L1) (hc1 : L1.length ≤ c1) (hT1 : Kd.C (Kd.slice 2 (Kd.int .i64)) w B1 T1.length T1) (he1 : T1.length ≤ e1) (ok1 : MeshOk L1 T1) :
    Calls Try.prog 6 #[.agg #[.slice A0 L0.length c0, .slice B0 T0.length e0], .agg #[.slice A1 L1.length c1, .slice B1 T1.length e1]] w fun e w' => e = .returned (.bool true) ∧ Below w.heap.size w w' := by
  have came0 : CameM w A0 c0 L0 B0 e0 T0 := ⟨hL0, hc0, hT0, he0⟩
  have came1 : CameM w A1 c1 L1 B1 e1 T1 := ⟨hL1, hc1, hT1, he1⟩
  have K0 := Lib.hid (show Below w.heap.size w ((w.alloc (.cells #[.slice A0 L0.length c0, .slice B0 T0.length e0] 25)).alloc (.cells #[.slice A1 L1.length c1, .slice B1 T1.length e1] 25)) from below_alloc (below_alloc (Below.refl w.heap.size w) (.cells #[.slice A0 L0.length c0, .slice B0 T0.length e0] 25)) (.cells #[.slice A1 L1.length c1, .slice B1 T1.length e1] 25))
  have hsz1 : (w.alloc (.cells #[.slice A0 L0.length c0, .slice B0 T0.length e0] 25)).heap.size = w.heap.size + 1 := by simp
  have hbx0 := BoxAt.new w 25 (.slice A0 L0.length c0) (.slice B0 T0.length e0)
  replace hbx0 := hbx0.below (below_alloc (Below.refl _ _) (.cells #[.slice A1 L1.length c1, .slice B1 T1.length e1] 25))
  have hbx1 := BoxAt.new (w.alloc (.cells #[.slice A0 L0.length c0, .slice B0 T0.length e0] 25)) 25 (.slice A1 L1.length c1) (.slice B1 T1.length e1)
  rw [hsz1] at hbx1
  have BA0_0 := Lib.hid hbx0
  have BA1_0 := Lib.hid hbx1
  have q0 := BA0_0.out.lt; have q1 := BA1_0.out.lt
  clear hbx0 hbx1 hsz1
  obtain ⟨r0, hsm0, hr0, hsz0⟩ := sz_step w w A0 c0 L0 B0 e0 T0 came0 ok0 1048576 (by omega) (by omega)
  have HSZ0 := Lib.hid hsz0
  by_cases hneg0 : r0 < 0
  · clear hsz0 hsm0 hL0 hc0 hT0 he0 came0 hL1 hc1 hT1 he1 came1
    have ba0_c0 := BA0_0.out.c0
    have ba0_d0 := BA0_0.out.c1
    have ba1_c0 := BA1_0.out.c0
    have ba1_d0 := BA1_0.out.c1
    go_enter Try.func6, Try.ntmps6
    go_wp2_with (first
      | (go_at_call 9; refine (HSZ0.out _ K0.out).mono ?_; rintro E w1 ⟨rfl, hb⟩; have z1 := hb.size; have BA0_1 := Lib.hid (BA0_0.out.below hb); have ba0_c1 := BA0_1.out.c0; have ba0_d1 := BA0_1.out.c1; (try clear ba0_c0 ba0_d0); have BA1_1 := Lib.hid (BA1_0.out.below hb); have ba1_c1 := BA1_1.out.c0; have ba1_d1 := BA1_1.out.c1; (try clear ba1_c0 ba1_d0); have K1 := Lib.hid (below_then K0.out hb K0.out.size); clear hb; skip)
      | fail)
    go_ret
    exact ⟨rfl, K1.out⟩
  · obtain ⟨r1, hsm1, hr1, hsz1⟩ := sz_step w w A1 c1 L1 B1 e1 T1 came1 ok1 r0 (by omega) (by omega)
    have HSZ1 := Lib.hid hsz1
    by_cases hneg1 : r1 < 0
    · clear hsz0 hsz1 hsm0 hsm1 hL0 hc0 hT0 he0 came0 hL1 hc1 hT1 he1 came1
      have ba0_c0 := BA0_0.out.c0
      have ba0_d0 := BA0_0.out.c1
      have ba1_c0 := BA1_0.out.c0
      have ba1_d0 := BA1_0.out.c1
      go_enter Try.func6, Try.ntmps6
      go_wp2_with (first
        | (go_at_call 9; first
            | (refine (HSZ1.out _ K1.out).mono ?_; rintro E w2 ⟨rfl, hb⟩; have z2 := hb.size; have BA0_2 := Lib.hid (BA0_1.out.below hb); have ba0_c2 := BA0_2.out.c0; have ba0_d2 := BA0_2.out.c1; (try clear ba0_c1 ba0_d1); have BA1_2 := Lib.hid (BA1_1.out.below hb); have ba1_c2 := BA1_2.out.c0; have ba1_d2 := BA1_2.out.c1; (try clear ba1_c1 ba1_d1); have K2 := Lib.hid (below_then K1.out hb K1.out.size); clear hb; skip)
            | (refine (HSZ0.out _ K0.out).mono ?_; rintro E w1 ⟨rfl, hb⟩; have z1 := hb.size; have BA0_1 := Lib.hid (BA0_0.out.below hb); have ba0_c1 := BA0_1.out.c0; have ba0_d1 := BA0_1.out.c1; (try clear ba0_c0 ba0_d0); have BA1_1 := Lib.hid (BA1_0.out.below hb); have ba1_c1 := BA1_1.out.c0; have ba1_d1 := BA1_1.out.c1; (try clear ba1_c0 ba1_d0); have K1 := Lib.hid (below_then K0.out hb K0.out.size); clear hb; skip))
        | fail)
      go_ret
      exact ⟨rfl, K2.out⟩
    · have hs0 := hsm0 (by omega)
      have hs1 := hsm1 (by omega)
      obtain ⟨P0, hP0⟩ : ∃ P, P = L0.map toV := ⟨_, rfl⟩
      have hPl0 : P0.length = L0.length := by rw [hP0, List.length_map]
      have hb0 : P0.length ≤ 1048576 := by rw [hPl0]; exact hs0.1
      have hok0 : ∀ x ∈ P0, okV x := by rw [hP0]; exact map_ok ok0.fl
      have HSI0 := Lib.hid (simP_self hok0)
      have HTO0 := Lib.hid (to_step w A0 c0 L0 B0 e0 T0 came0 hs0 P0 hP0)
      have HA0 : Hid (T0.length ≤ 1048576) := Lib.hid hs0.2.1
      have HB0 : Hid (∀ t ∈ T0, t.length ≤ 1048576) := Lib.hid hs0.2.2
      have htot0 := tot_le T0 hs0.2.2; have htm0 : T0.length ≤ 1048576 := hs0.2.1
      obtain ⟨P1, hP1⟩ : ∃ P, P = L1.map toV := ⟨_, rfl⟩
      have hPl1 : P1.length = L1.length := by rw [hP1, List.length_map]
      have hb1 : P1.length ≤ 1048576 := by rw [hPl1]; exact hs1.1
      have hok1 : ∀ x ∈ P1, okV x := by rw [hP1]; exact map_ok ok1.fl
      have HSI1 := Lib.hid (simP_self hok1)
      have HTO1 := Lib.hid (to_step w A1 c1 L1 B1 e1 T1 came1 hs1 P1 hP1)
      have HA1 : Hid (T1.length ≤ 1048576) := Lib.hid hs1.2.1
      have HB1 : Hid (∀ t ∈ T1, t.length ≤ 1048576) := Lib.hid hs1.2.2
      have htot1 := tot_le T1 hs1.2.2; have htm1 : T1.length ≤ 1048576 := hs1.2.1
      have hsmall := join_small P0 T0 P1 T1
      have hsj := simP_self (join_ok P0 T0 P1 T1 hok0 hok1)
      obtain ⟨ans, hans⟩ : ∃ ans, ans = joinR P0 T0 P1 T1 := ⟨_, rfl⟩
      have h1 : ∀ (A0 : Option Addr) (c0 : Nat) (B0 : Option Addr) (e0 : Nat) (A1 : Option Addr) (c1 : Nat) (B1 : Option Addr) (e1 : Nat) (W : World), ReadM W A0 c0 P0 B0 e0 T0 → ReadM W A1 c1 P1 B1 e1 T1 → Calls Try.prog 21 #[.agg #[.slice A0 P0.length c0, .slice B0 T0.length e0], .agg #[.slice A1 P1.length c1, .slice B1 T1.length e1]] W (AnsRs W ans.1 ans.2.1 ans.2.2) := fun A0 c0 B0 e0 A1 c1 B1 e1 W p0 p1 => by rw [hans]; exact (spec_JoinMeshes A0 c0 P0 B0 e0 T0 A1 c1 P1 B1 e1 T1 W p0.1 p0.2.1 p0.2.2.1 p0.2.2.2 p1.1 p1.2.1 p1.2.2.1 p1.2.2.2).mono (fun E w' h => (h.s hsj).r)
      have h2 : ∀ (A0 : Option Addr) (c0 : Nat) (B0 : Option Addr) (e0 : Nat) (A1 : Option Addr) (c1 : Nat) (B1 : Option Addr) (e1 : Nat) (W : World), ReadM W A0 c0 P0 B0 e0 T0 → ReadM W A1 c1 P1 B1 e1 T1 → Calls Try.prog 22 #[.agg #[.slice A0 P0.length c0, .slice B0 T0.length e0], .agg #[.slice A1 P1.length c1, .slice B1 T1.length e1]] W (AnsMs W ans.1 ans.2.1 ans.2.2) := fun A0 c0 B0 e0 A1 c1 B1 e1 W p0 p1 => by rw [hans]; exact (impl_JoinMeshes A0 c0 P0 B0 e0 T0 A1 c1 P1 B1 e1 T1 W p0.1 p0.2.1 p0.2.2.1 p0.2.2.2 p1.1 p1.2.1 p1.2.2.1 p1.2.2.2).mono (fun E w' h => h.s hsj)
      rw [← hans] at hsmall
      obtain ⟨P', R, b⟩ := ans
      dsimp only at h1 h2 hsmall
      have H1 := Lib.hid h1; have H2 := Lib.hid h2
      have hp1 := hsmall.1; have HR1 := Lib.hid hsmall.2.1; have HR2 := Lib.hid hsmall.2.2
      have htotR := tot_le R hsmall.2.2; have htmR := hsmall.2.1
      have hk0 : ¬ (1 + 3 * (P0.length : Int) + (tot T0 : Int)) < 0 := by omega
      have hk1 : ¬ (1 + 3 * (P0.length : Int) + (tot T0 : Int) + 3 * (P1.length : Int) + (tot T1 : Int)) < 0 := by omega
      have hkR : ¬ (1 + 3 * (P'.length : Int) + (tot R : Int)) < 0 := by omega
      clear h1 h2 hsmall hans htotR htmR hsz0 hsm0 hsj hsz1 hsm1 hL0 hc0 hT0 he0 came0 hs0 hP0 hPl0 hok0 hL1 hc1 hT1 he1 came1 hs1 hP1 hPl1 hok1
      have ba0_c0 := BA0_0.out.c0
      have ba0_d0 := BA0_0.out.c1
      have ba1_c0 := BA1_0.out.c0
      have ba1_d0 := BA1_0.out.c1
      go_enter Try.func6, Try.ntmps6
      go_wp2_with (first
        | (go_at_call 9; first
            | (refine (HSZ1.out _ K1.out).mono ?_; rintro E w2 ⟨rfl, hb⟩; have z2 := hb.size; have BA0_2 := Lib.hid (BA0_1.out.below hb); have ba0_c2 := BA0_2.out.c0; have ba0_d2 := BA0_2.out.c1; (try clear ba0_c1 ba0_d1); have BA1_2 := Lib.hid (BA1_1.out.below hb); have ba1_c2 := BA1_2.out.c0; have ba1_d2 := BA1_2.out.c1; (try clear ba1_c1 ba1_d1); have K2 := Lib.hid (below_then K1.out hb K1.out.size); clear hb; skip)
            | (refine (HSZ0.out _ K0.out).mono ?_; rintro E w1 ⟨rfl, hb⟩; have z1 := hb.size; have BA0_1 := Lib.hid (BA0_0.out.below hb); have ba0_c1 := BA0_1.out.c0; have ba0_d1 := BA0_1.out.c1; (try clear ba0_c0 ba0_d0); have BA1_1 := Lib.hid (BA1_0.out.below hb); have ba1_c1 := BA1_1.out.c0; have ba1_d1 := BA1_1.out.c1; (try clear ba1_c0 ba1_d0); have K1 := Lib.hid (below_then K0.out hb K0.out.size); clear hb; skip))
        | fail)
      have BA0_d := Lib.hid (show BoxAt w2.drew (w.heap.size) 25 (.slice A0 L0.length c0) (.slice B0 T0.length e0) from BA0_2.out.below (Below.drew (Below.refl _ _)))
      have BA1_d := Lib.hid (show BoxAt w2.drew (w.heap.size + 1) 25 (.slice A1 L1.length c1) (.slice B1 T1.length e1) from BA1_2.out.below (Below.drew (Below.refl _ _)))
      have Kd_ := Lib.hid (Below.drew K2.out); have hzd : w2.heap.size ≤ w2.drew.heap.size := Nat.le_refl _
      refine start_ (n := 11) (S := fun w' => w'.cell? ⟨w.heap.size, 0, none⟩ = some (.slice A0 L0.length c0) ∧ w'.cell? ⟨w.heap.size, 1, none⟩ = some (.slice B0 T0.length e0) ∧ w'.cell? ⟨w.heap.size + 1, 0, none⟩ = some (.slice A1 L1.length c1) ∧ w'.cell? ⟨w.heap.size + 1, 1, none⟩ = some (.slice B1 T1.length e1)) (ds := []) #[false, false, false, false, false, false, false, false, false, false, false] (by kernel_rfl) rfl rfl ⟨BA0_d.out.c0, BA0_d.out.c1, BA1_d.out.c0, BA1_d.out.c1⟩ (fun hHeld => ?_)
      generalize w2.drew = wd2 at BA0_d BA1_d Kd_ hzd hHeld ⊢
      clear BA0_2 BA1_2 K2 ba0_c2 ba0_d2 ba1_c2 ba1_d2
      refine take_ (i := 0) (N := (some 28)) (v := ?_) (a' := ?_) #[true, false, false, false, false, false, false, false, false, false, false] rfl rfl (by kernel_rfl) (fun _ _ _ h => h) (Or.inl ⟨by rfl, ?_⟩) hHeld ?_ ?_
      rotate_left
      · intro w' hSw
        (try dsimp only at hSw)
        go_simp
        with_reducible rfl
      rotate_left
      · simp only [Act.put, List.setIfInBounds_toArray, List.set_cons_zero, List.set_cons_succ, i64_w, i32_w]; rfl
      refine take_ (i := 2) (N := (some 30)) (v := ?_) (a' := ?_) #[true, false, true, false, false, false, false, false, false, false, false] rfl rfl (by kernel_rfl) (fun _ _ _ h => h) (Or.inl ⟨by rfl, ?_⟩) hHeld ?_ ?_
      rotate_left
      · intro w' hSw
        (try dsimp only at hSw)
        go_simp
        with_reducible rfl
      rotate_left
      · simp only [Act.put, List.setIfInBounds_toArray, List.set_cons_zero, List.set_cons_succ, i64_w, i32_w]; rfl
      refine join_ (σ := Option Addr × Nat × Option Addr × Nat × Option Addr × Nat × Option Addr × Nat × List S40 × Option Addr × Nat × Option Addr × Nat × Nat × Nat × Nat) 2 #[true, true, true, true, true, true, true, true, true, false, false] (fun s_ => [(29, .agg #[.slice s_.1 P0.length s_.2.1, .slice s_.2.2.1 T0.length s_.2.2.2.1]), (31, .agg #[.slice s_.2.2.2.2.1 P1.length s_.2.2.2.2.2.1, .slice s_.2.2.2.2.2.2.1 T1.length s_.2.2.2.2.2.2.2.1]), (32, .tuple #[.agg #[.slice s_.2.2.2.2.2.2.2.2.2.1 P'.length s_.2.2.2.2.2.2.2.2.2.2.1, .slice s_.2.2.2.2.2.2.2.2.2.2.2.1 R.length s_.2.2.2.2.2.2.2.2.2.2.2.2.1], .bool b]), (27, .tuple #[.agg #[.slice s_.2.2.2.2.2.2.2.2.2.1 P'.length s_.2.2.2.2.2.2.2.2.2.2.1, .slice s_.2.2.2.2.2.2.2.2.2.2.2.1 R.length s_.2.2.2.2.2.2.2.2.2.2.2.2.1], .bool b]), (33, .agg #[.slice s_.2.2.2.2.2.2.2.2.2.1 P'.length s_.2.2.2.2.2.2.2.2.2.2.1, .slice s_.2.2.2.2.2.2.2.2.2.2.2.1 R.length s_.2.2.2.2.2.2.2.2.2.2.2.2.1]), (34, .bool b), (6, .pointer (some ⟨s_.2.2.2.2.2.2.2.2.2.2.2.2.2.2.2, 0, none⟩))]) (fun s_ w' => (BoxAt w' (w.heap.size) 25 (.slice A0 L0.length c0) (.slice B0 T0.length e0)) ∧ (BoxAt w' (w.heap.size + 1) 25 (.slice A1 L1.length c1) (.slice B1 T1.length e1)) ∧ (Below w.heap.size w w') ∧ (w2.heap.size ≤ w'.heap.size) ∧ (ReadM w' s_.1 s_.2.1 P0 s_.2.2.1 s_.2.2.2.1 T0) ∧ (ReadM w' s_.2.2.2.2.1 s_.2.2.2.2.2.1 P1 s_.2.2.2.2.2.2.1 s_.2.2.2.2.2.2.2.1 T1) ∧ (simP s_.2.2.2.2.2.2.2.2.1 P') ∧ (RefM w' s_.2.2.2.2.2.2.2.2.2.2.2.2.2.1 s_.2.2.2.2.2.2.2.2.2.2.2.2.2.2.1 (.slice s_.2.2.2.2.2.2.2.2.2.1 P'.length s_.2.2.2.2.2.2.2.2.2.2.1) (.slice s_.2.2.2.2.2.2.2.2.2.2.2.1 R.length s_.2.2.2.2.2.2.2.2.2.2.2.2.1) s_.2.2.2.2.2.2.2.2.1 R) ∧ (w2.heap.size ≤ s_.2.2.2.2.2.2.2.2.2.2.2.2.2.1) ∧ (s_.2.2.2.2.2.2.2.2.2.2.2.2.2.2.1 ≤ w'.heap.size) ∧ (BoxAt w' s_.2.2.2.2.2.2.2.2.2.2.2.2.2.2.2 29 (.slice none 0 0) (.slice none 0 0)) ∧ (w2.heap.size ≤ s_.2.2.2.2.2.2.2.2.2.2.2.2.2.2.2) ∧ (s_.2.2.2.2.2.2.2.2.2.2.2.2.2.2.2 < s_.2.2.2.2.2.2.2.2.2.2.2.2.2.1 ∨ s_.2.2.2.2.2.2.2.2.2.2.2.2.2.2.1 ≤ s_.2.2.2.2.2.2.2.2.2.2.2.2.2.2.2)) ?_ ?_
      rotate_left
      · intro hN_m0_m1_f_g
        refine join_ (σ := Option Addr × Nat × Option Addr × Nat × Option Addr × Nat × Option Addr × Nat × List S40 × Option Addr × Nat × Option Addr × Nat × Nat × Nat) 3 #[true, true, true, true, true, true, true, true, false, false, false] (fun s_ => [(29, .agg #[.slice s_.1 P0.length s_.2.1, .slice s_.2.2.1 T0.length s_.2.2.2.1]), (31, .agg #[.slice s_.2.2.2.2.1 P1.length s_.2.2.2.2.2.1, .slice s_.2.2.2.2.2.2.1 T1.length s_.2.2.2.2.2.2.2.1]), (32, .tuple #[.agg #[.slice s_.2.2.2.2.2.2.2.2.2.1 P'.length s_.2.2.2.2.2.2.2.2.2.2.1, .slice s_.2.2.2.2.2.2.2.2.2.2.2.1 R.length s_.2.2.2.2.2.2.2.2.2.2.2.2.1], .bool b]), (27, .tuple #[.agg #[.slice s_.2.2.2.2.2.2.2.2.2.1 P'.length s_.2.2.2.2.2.2.2.2.2.2.1, .slice s_.2.2.2.2.2.2.2.2.2.2.2.1 R.length s_.2.2.2.2.2.2.2.2.2.2.2.2.1], .bool b]), (33, .agg #[.slice s_.2.2.2.2.2.2.2.2.2.1 P'.length s_.2.2.2.2.2.2.2.2.2.2.1, .slice s_.2.2.2.2.2.2.2.2.2.2.2.1 R.length s_.2.2.2.2.2.2.2.2.2.2.2.2.1]), (34, .bool b)]) (fun s_ w' => (BoxAt w' (w.heap.size) 25 (.slice A0 L0.length c0) (.slice B0 T0.length e0)) ∧ (BoxAt w' (w.heap.size + 1) 25 (.slice A1 L1.length c1) (.slice B1 T1.length e1)) ∧ (Below w.heap.size w w') ∧ (w2.heap.size ≤ w'.heap.size) ∧ (ReadM w' s_.1 s_.2.1 P0 s_.2.2.1 s_.2.2.2.1 T0) ∧ (ReadM w' s_.2.2.2.2.1 s_.2.2.2.2.2.1 P1 s_.2.2.2.2.2.2.1 s_.2.2.2.2.2.2.2.1 T1) ∧ (simP s_.2.2.2.2.2.2.2.2.1 P') ∧ (RefM w' s_.2.2.2.2.2.2.2.2.2.2.2.2.2.1 s_.2.2.2.2.2.2.2.2.2.2.2.2.2.2 (.slice s_.2.2.2.2.2.2.2.2.2.1 P'.length s_.2.2.2.2.2.2.2.2.2.2.1) (.slice s_.2.2.2.2.2.2.2.2.2.2.2.1 R.length s_.2.2.2.2.2.2.2.2.2.2.2.2.1) s_.2.2.2.2.2.2.2.2.1 R) ∧ (w2.heap.size ≤ s_.2.2.2.2.2.2.2.2.2.2.2.2.2.1) ∧ (s_.2.2.2.2.2.2.2.2.2.2.2.2.2.2 ≤ w'.heap.size)) ?_ ?_
        · skip
          rintro ⟨Am0, cm0, Bm0, em0, Am1, cm1, Bm1, em1, PW, AW, cW, BW, eW, aW, bW⟩ wn ⟨f_BA0_, f_BA1_, f_Kd_, f_hzd, f_d0, f_d1, f_sx, f_rx, yaW, f_bx_⟩
          replace f_BA0_ : BoxAt wn (w.heap.size) 25 (.slice A0 L0.length c0) (.slice B0 T0.length e0) := f_BA0_
          replace f_BA1_ : BoxAt wn (w.heap.size + 1) 25 (.slice A1 L1.length c1) (.slice B1 T1.length e1) := f_BA1_
          replace f_Kd_ : Below w.heap.size w wn := f_Kd_
          replace f_hzd : w2.heap.size ≤ wn.heap.size := f_hzd
          replace f_d0 : ReadM wn Am0 cm0 P0 Bm0 em0 T0 := f_d0
          replace f_d1 : ReadM wn Am1 cm1 P1 Bm1 em1 T1 := f_d1
          replace f_sx : simP PW P' := f_sx
          replace f_rx : RefM wn aW bW (.slice AW P'.length cW) (.slice BW R.length eW) PW R := f_rx
          replace yaW : w2.heap.size ≤ aW := yaW
          replace f_bx_ : bW ≤ wn.heap.size := f_bx_
          refine norm_ (a' := ?_) ?_ ?_
          rotate_left
          · simp only [putAll, Act.put, List.setIfInBounds_toArray, List.set_cons_zero, List.set_cons_succ]; rfl
          refine one_ (i := 8) (N := (some 6)) #[true, true, true, true, true, true, true, true, true, false, false] rfl rfl (by kernel_rfl) (by decide) (fun K hK => ?_)
          refine box_step ?hg (N := 6) ?hd (cs := #[.slice none 0 0, .slice none 0 0]) (t := 29) ?hr ?_; (case hd => rfl); (case hg => rfl); (case hr => first | (go_simp; done) | (go_simp; rfl))
          intro gW hg wz m_gx hb
          have m_gx_ : w2.heap.size ≤ gW := by rw [hg]; exact f_hzd
          have hgnew := hg
          have m_BA0_ := f_BA0_.below hb
          have m_BA1_ := f_BA1_.below hb
          have m_Kd_ := below_step f_Kd_ hb
          have m_hzd := Nat.le_trans f_hzd hb.size
          have m_d0 := f_d0.below hb
          have m_d1 := f_d1.below hb
          have m_sx := f_sx
          have m_rx := f_rx.below hb
          have m_ax_ := yaW
          have m_bx_ := Nat.le_trans f_bx_ hb.size
          refine hK.out _ _ ⟨m_BA0_.c0, m_BA0_.c1, m_BA1_.c0, m_BA1_.c1⟩ (fun hHeld => ?_)
          clear hK K
          refine norm_ (a' := ?_) ?_ ?_
          rotate_left
          · show Act.put _ (some 6) _ = _
            simp only [Act.put, List.setIfInBounds_toArray, List.set_cons_zero, List.set_cons_succ, i64_w, i32_w]
            rfl
          have m_fg := (Or.inr (by rw [hgnew]; exact f_bx_) : gW < aW ∨ bW ≤ gW)
          exact norm_ (by simp only [putAll, Act.put, List.setIfInBounds_toArray, List.set_cons_zero, List.set_cons_succ]) (hN_m0_m1_f_g (Am0, cm0, Bm0, em0, Am1, cm1, Bm1, em1, PW, AW, cW, BW, eW, aW, bW, gW) _ ⟨m_BA0_, m_BA1_, m_Kd_, m_hzd, m_d0, m_d1, m_sx, m_rx, m_ax_, m_bx_, m_gx, m_gx_, m_fg⟩)
        intro hN_m0_m1_f
        refine join_ (σ := Option Addr × Nat × Option Addr × Nat × Option Addr × Nat × Option Addr × Nat × Nat) 6 #[true, true, true, true, false, false, false, false, true, false, false] (fun s_ => [(29, .agg #[.slice s_.1 P0.length s_.2.1, .slice s_.2.2.1 T0.length s_.2.2.2.1]), (31, .agg #[.slice s_.2.2.2.2.1 P1.length s_.2.2.2.2.2.1, .slice s_.2.2.2.2.2.2.1 T1.length s_.2.2.2.2.2.2.2.1]), (6, .pointer (some ⟨s_.2.2.2.2.2.2.2.2, 0, none⟩))]) (fun s_ w' => (BoxAt w' (w.heap.size) 25 (.slice A0 L0.length c0) (.slice B0 T0.length e0)) ∧ (BoxAt w' (w.heap.size + 1) 25 (.slice A1 L1.length c1) (.slice B1 T1.length e1)) ∧ (Below w.heap.size w w') ∧ (w2.heap.size ≤ w'.heap.size) ∧ (ReadM w' s_.1 s_.2.1 P0 s_.2.2.1 s_.2.2.2.1 T0) ∧ (ReadM w' s_.2.2.2.2.1 s_.2.2.2.2.2.1 P1 s_.2.2.2.2.2.2.1 s_.2.2.2.2.2.2.2.1 T1) ∧ (BoxAt w' s_.2.2.2.2.2.2.2.2 29 (.slice none 0 0) (.slice none 0 0)) ∧ (w2.heap.size ≤ s_.2.2.2.2.2.2.2.2)) ?_ ?_
        · skip
          rintro ⟨Am0, cm0, Bm0, em0, Am1, cm1, Bm1, em1, gW⟩ wn ⟨f_BA0_, f_BA1_, f_Kd_, f_hzd, f_d0, f_d1, f_gx, ygW⟩
          replace f_BA0_ : BoxAt wn (w.heap.size) 25 (.slice A0 L0.length c0) (.slice B0 T0.length e0) := f_BA0_
          replace f_BA1_ : BoxAt wn (w.heap.size + 1) 25 (.slice A1 L1.length c1) (.slice B1 T1.length e1) := f_BA1_
          replace f_Kd_ : Below w.heap.size w wn := f_Kd_
          replace f_hzd : w2.heap.size ≤ wn.heap.size := f_hzd
          replace f_d0 : ReadM wn Am0 cm0 P0 Bm0 em0 T0 := f_d0
          replace f_d1 : ReadM wn Am1 cm1 P1 Bm1 em1 T1 := f_d1
          replace f_gx : BoxAt wn gW 29 (.slice none 0 0) (.slice none 0 0) := f_gx
          replace ygW : w2.heap.size ≤ gW := ygW
          refine norm_ (a' := ?_) ?_ ?_
          rotate_left
          · simp only [putAll, Act.put, List.setIfInBounds_toArray, List.set_cons_zero, List.set_cons_succ]; rfl
          refine one_ (i := 4) (N := (some 32)) #[true, true, true, true, true, false, false, false, true, false, false] rfl rfl (by kernel_rfl) (by decide) (fun K hK => ?_)
          refine goes_ Try.func21 (by kernel_rfl) rfl #[.agg #[.slice Am0 P0.length cm0, .slice Bm0 T0.length em0], .agg #[.slice Am1 P1.length cm1, .slice Bm1 T1.length em1]] (by rfl) rfl rfl (by (try simp only [List.map_toArray, List.map_cons, List.map_nil]); first | done | rfl) ?_
          refine (H1.out _ _ _ _ _ _ _ _ _ f_d0 f_d1).mono ?_
          rintro E wz ⟨PW, AW, cW, BW, eW, m_sx, rfl, m_rx, hb⟩
          refine ⟨_, rfl, ?_⟩
          obtain ⟨aW, hax⟩ : ∃ a, a = wn.heap.size := ⟨_, rfl⟩
          obtain ⟨bW, hbx⟩ : ∃ b, b = wz.heap.size := ⟨_, rfl⟩
          rw [← hax, ← hbx] at m_rx
          have m_ax_ : w2.heap.size ≤ aW := by rw [hax]; exact f_hzd
          have m_bx_ : bW ≤ wz.heap.size := by rw [hbx]; exact Nat.le_refl _
          have m_BA0_ := f_BA0_.below hb
          have m_BA1_ := f_BA1_.below hb
          have m_Kd_ := below_step f_Kd_ hb
          have m_hzd := Nat.le_trans f_hzd hb.size
          have m_d0 := f_d0.below hb
          have m_d1 := f_d1.below hb
          have m_gx := f_gx.below hb
          have m_gx_ := ygW
          refine hK.out _ _ ⟨m_BA0_.c0, m_BA0_.c1, m_BA1_.c0, m_BA1_.c1⟩ (fun hHeld => ?_)
          clear hK K
          refine norm_ (a' := ?_) ?_ ?_
          rotate_left
          · show Act.put _ (some 32) _ = _
            simp only [Act.put, List.setIfInBounds_toArray, List.set_cons_zero, List.set_cons_succ, i64_w, i32_w]
            rfl
          refine pure_ (i := 5) (N := (some 27)) (v := ?_) (a' := ?_) #[true, true, true, true, true, true, false, false, true, false, false] rfl rfl (by kernel_rfl) (fun _ _ _ h => h) (Or.inl ⟨by rfl, ?_⟩) ?_ ?_
          rotate_left
          · intro w'
            go_simp
            with_reducible rfl
          rotate_left
          · simp only [Act.put, List.setIfInBounds_toArray, List.set_cons_zero, List.set_cons_succ, i64_w, i32_w]; rfl
          refine pure_ (i := 6) (N := (some 33)) (v := ?_) (a' := ?_) #[true, true, true, true, true, true, true, false, true, false, false] rfl rfl (by kernel_rfl) (fun _ _ _ h => h) (Or.inl ⟨by rfl, ?_⟩) ?_ ?_
          rotate_left
          · intro w'
            go_simp
            with_reducible rfl
          rotate_left
          · simp only [Act.put, List.setIfInBounds_toArray, List.set_cons_zero, List.set_cons_succ, i64_w, i32_w]; rfl
          refine pure_ (i := 7) (N := (some 34)) (v := ?_) (a' := ?_) #[true, true, true, true, true, true, true, true, true, false, false] rfl rfl (by kernel_rfl) (fun _ _ _ h => h) (Or.inl ⟨by rfl, ?_⟩) ?_ ?_
          rotate_left
          · intro w'
            go_simp
            with_reducible rfl
          rotate_left
          · simp only [Act.put, List.setIfInBounds_toArray, List.set_cons_zero, List.set_cons_succ, i64_w, i32_w]; rfl
          have m_fg := (Or.inl (by rw [hax]; exact f_gx.lt) : gW < aW ∨ bW ≤ gW)
          exact norm_ (by simp only [putAll, Act.put, List.setIfInBounds_toArray, List.set_cons_zero, List.set_cons_succ]) (hN_m0_m1_f_g (Am0, cm0, Bm0, em0, Am1, cm1, Bm1, em1, PW, AW, cW, BW, eW, aW, bW, gW) _ ⟨m_BA0_, m_BA1_, m_Kd_, m_hzd, m_d0, m_d1, m_sx, m_rx, m_ax_, m_bx_, m_gx, m_gx_, m_fg⟩)
        intro hN_m0_m1_g
        refine join_ (σ := Option Addr × Nat × Option Addr × Nat × Option Addr × Nat × Option Addr × Nat) 7 #[true, true, true, true, false, false, false, false, false, false, false] (fun s_ => [(29, .agg #[.slice s_.1 P0.length s_.2.1, .slice s_.2.2.1 T0.length s_.2.2.2.1]), (31, .agg #[.slice s_.2.2.2.2.1 P1.length s_.2.2.2.2.2.1, .slice s_.2.2.2.2.2.2.1 T1.length s_.2.2.2.2.2.2.2])]) (fun s_ w' => (BoxAt w' (w.heap.size) 25 (.slice A0 L0.length c0) (.slice B0 T0.length e0)) ∧ (BoxAt w' (w.heap.size + 1) 25 (.slice A1 L1.length c1) (.slice B1 T1.length e1)) ∧ (Below w.heap.size w w') ∧ (w2.heap.size ≤ w'.heap.size) ∧ (ReadM w' s_.1 s_.2.1 P0 s_.2.2.1 s_.2.2.2.1 T0) ∧ (ReadM w' s_.2.2.2.2.1 s_.2.2.2.2.2.1 P1 s_.2.2.2.2.2.2.1 s_.2.2.2.2.2.2.2 T1)) ?_ ?_
        · skip
          rintro ⟨Am0, cm0, Bm0, em0, Am1, cm1, Bm1, em1⟩ wn ⟨f_BA0_, f_BA1_, f_Kd_, f_hzd, f_d0, f_d1⟩
          replace f_BA0_ : BoxAt wn (w.heap.size) 25 (.slice A0 L0.length c0) (.slice B0 T0.length e0) := f_BA0_
          replace f_BA1_ : BoxAt wn (w.heap.size + 1) 25 (.slice A1 L1.length c1) (.slice B1 T1.length e1) := f_BA1_
          replace f_Kd_ : Below w.heap.size w wn := f_Kd_
          replace f_hzd : w2.heap.size ≤ wn.heap.size := f_hzd
          replace f_d0 : ReadM wn Am0 cm0 P0 Bm0 em0 T0 := f_d0
          replace f_d1 : ReadM wn Am1 cm1 P1 Bm1 em1 T1 := f_d1
          refine norm_ (a' := ?_) ?_ ?_
          rotate_left
          · simp only [putAll, Act.put, List.setIfInBounds_toArray, List.set_cons_zero, List.set_cons_succ]; rfl
          refine two_ (i := 4) (j := 8) (Ni := (some 32)) (Nj := (some 6)) #[true, true, true, true, true, false, false, false, false, false, false] #[true, true, true, true, false, false, false, false, true, false, false] rfl rfl rfl rfl (by kernel_rfl) (by decide) (by decide) (fun K hK => ?_) (fun K hK => ?_) 
          · skip
            refine goes_ Try.func21 (by kernel_rfl) rfl #[.agg #[.slice Am0 P0.length cm0, .slice Bm0 T0.length em0], .agg #[.slice Am1 P1.length cm1, .slice Bm1 T1.length em1]] (by rfl) rfl rfl (by (try simp only [List.map_toArray, List.map_cons, List.map_nil]); first | done | rfl) ?_
            refine (H1.out _ _ _ _ _ _ _ _ _ f_d0 f_d1).mono ?_
            rintro E wz ⟨PW, AW, cW, BW, eW, m_sx, rfl, m_rx, hb⟩
            refine ⟨_, rfl, ?_⟩
            obtain ⟨aW, hax⟩ : ∃ a, a = wn.heap.size := ⟨_, rfl⟩
            obtain ⟨bW, hbx⟩ : ∃ b, b = wz.heap.size := ⟨_, rfl⟩
            rw [← hax, ← hbx] at m_rx
            have m_ax_ : w2.heap.size ≤ aW := by rw [hax]; exact f_hzd
            have m_bx_ : bW ≤ wz.heap.size := by rw [hbx]; exact Nat.le_refl _
            have m_BA0_ := f_BA0_.below hb
            have m_BA1_ := f_BA1_.below hb
            have m_Kd_ := below_step f_Kd_ hb
            have m_hzd := Nat.le_trans f_hzd hb.size
            have m_d0 := f_d0.below hb
            have m_d1 := f_d1.below hb
            refine hK.out _ _ ⟨m_BA0_.c0, m_BA0_.c1, m_BA1_.c0, m_BA1_.c1⟩ (fun hHeld => ?_)
            clear hK K
            refine norm_ (a' := ?_) ?_ ?_
            rotate_left
            · show Act.put _ (some 32) _ = _
              simp only [Act.put, List.setIfInBounds_toArray, List.set_cons_zero, List.set_cons_succ, i64_w, i32_w]
              rfl
            refine pure_ (i := 5) (N := (some 27)) (v := ?_) (a' := ?_) #[true, true, true, true, true, true, false, false, false, false, false] rfl rfl (by kernel_rfl) (fun _ _ _ h => h) (Or.inl ⟨by rfl, ?_⟩) ?_ ?_
            rotate_left
            · intro w'
              go_simp
              with_reducible rfl
            rotate_left
            · simp only [Act.put, List.setIfInBounds_toArray, List.set_cons_zero, List.set_cons_succ, i64_w, i32_w]; rfl
            refine pure_ (i := 6) (N := (some 33)) (v := ?_) (a' := ?_) #[true, true, true, true, true, true, true, false, false, false, false] rfl rfl (by kernel_rfl) (fun _ _ _ h => h) (Or.inl ⟨by rfl, ?_⟩) ?_ ?_
            rotate_left
            · intro w'
              go_simp
              with_reducible rfl
            rotate_left
            · simp only [Act.put, List.setIfInBounds_toArray, List.set_cons_zero, List.set_cons_succ, i64_w, i32_w]; rfl
            refine pure_ (i := 7) (N := (some 34)) (v := ?_) (a' := ?_) #[true, true, true, true, true, true, true, true, false, false, false] rfl rfl (by kernel_rfl) (fun _ _ _ h => h) (Or.inl ⟨by rfl, ?_⟩) ?_ ?_
            rotate_left
            · intro w'
              go_simp
              with_reducible rfl
            rotate_left
            · simp only [Act.put, List.setIfInBounds_toArray, List.set_cons_zero, List.set_cons_succ, i64_w, i32_w]; rfl
            exact norm_ (by simp only [putAll, Act.put, List.setIfInBounds_toArray, List.set_cons_zero, List.set_cons_succ]) (hN_m0_m1_f (Am0, cm0, Bm0, em0, Am1, cm1, Bm1, em1, PW, AW, cW, BW, eW, aW, bW) _ ⟨m_BA0_, m_BA1_, m_Kd_, m_hzd, m_d0, m_d1, m_sx, m_rx, m_ax_, m_bx_⟩)
          · skip
            refine box_step ?hg (N := 6) ?hd (cs := #[.slice none 0 0, .slice none 0 0]) (t := 29) ?hr ?_; (case hd => rfl); (case hg => rfl); (case hr => first | (go_simp; done) | (go_simp; rfl))
            intro gW hg wz m_gx hb
            have m_gx_ : w2.heap.size ≤ gW := by rw [hg]; exact f_hzd
            have hgnew := hg
            have m_BA0_ := f_BA0_.below hb
            have m_BA1_ := f_BA1_.below hb
            have m_Kd_ := below_step f_Kd_ hb
            have m_hzd := Nat.le_trans f_hzd hb.size
            have m_d0 := f_d0.below hb
            have m_d1 := f_d1.below hb
            refine hK.out _ _ ⟨m_BA0_.c0, m_BA0_.c1, m_BA1_.c0, m_BA1_.c1⟩ (fun hHeld => ?_)
            clear hK K
            refine norm_ (a' := ?_) ?_ ?_
            rotate_left
            · show Act.put _ (some 6) _ = _
              simp only [Act.put, List.setIfInBounds_toArray, List.set_cons_zero, List.set_cons_succ, i64_w, i32_w]
              rfl
            exact norm_ (by simp only [putAll, Act.put, List.setIfInBounds_toArray, List.set_cons_zero, List.set_cons_succ]) (hN_m0_m1_g (Am0, cm0, Bm0, em0, Am1, cm1, Bm1, em1, gW) _ ⟨m_BA0_, m_BA1_, m_Kd_, m_hzd, m_d0, m_d1, m_gx, m_gx_⟩)
        intro hN_m0_m1
        refine join_ (σ := Option Addr × Nat × Option Addr × Nat × Nat) 7 #[true, true, true, false, false, false, false, false, true, false, false] (fun s_ => [(29, .agg #[.slice s_.1 P0.length s_.2.1, .slice s_.2.2.1 T0.length s_.2.2.2.1]), (6, .pointer (some ⟨s_.2.2.2.2, 0, none⟩))]) (fun s_ w' => (BoxAt w' (w.heap.size) 25 (.slice A0 L0.length c0) (.slice B0 T0.length e0)) ∧ (BoxAt w' (w.heap.size + 1) 25 (.slice A1 L1.length c1) (.slice B1 T1.length e1)) ∧ (Below w.heap.size w w') ∧ (w2.heap.size ≤ w'.heap.size) ∧ (ReadM w' s_.1 s_.2.1 P0 s_.2.2.1 s_.2.2.2.1 T0) ∧ (BoxAt w' s_.2.2.2.2 29 (.slice none 0 0) (.slice none 0 0)) ∧ (w2.heap.size ≤ s_.2.2.2.2)) ?_ ?_
        · skip
          rintro ⟨Am0, cm0, Bm0, em0, gW⟩ wn ⟨f_BA0_, f_BA1_, f_Kd_, f_hzd, f_d0, f_gx, ygW⟩
          replace f_BA0_ : BoxAt wn (w.heap.size) 25 (.slice A0 L0.length c0) (.slice B0 T0.length e0) := f_BA0_
          replace f_BA1_ : BoxAt wn (w.heap.size + 1) 25 (.slice A1 L1.length c1) (.slice B1 T1.length e1) := f_BA1_
          replace f_Kd_ : Below w.heap.size w wn := f_Kd_
          replace f_hzd : w2.heap.size ≤ wn.heap.size := f_hzd
          replace f_d0 : ReadM wn Am0 cm0 P0 Bm0 em0 T0 := f_d0
          replace f_gx : BoxAt wn gW 29 (.slice none 0 0) (.slice none 0 0) := f_gx
          replace ygW : w2.heap.size ≤ gW := ygW
          refine norm_ (a' := ?_) ?_ ?_
          rotate_left
          · simp only [putAll, Act.put, List.setIfInBounds_toArray, List.set_cons_zero, List.set_cons_succ]; rfl
          refine one_ (i := 3) (N := (some 31)) #[true, true, true, true, false, false, false, false, true, false, false] rfl rfl (by kernel_rfl) (by decide) (fun K hK => ?_)
          refine goes_ Try.func11 (by kernel_rfl) rfl #[.agg #[.slice A1 L1.length c1, .slice B1 T1.length e1]] (by rfl) rfl rfl (by (try simp only [List.map_toArray, List.map_cons, List.map_nil]); first | done | rfl) ?_
          refine (HTO1.out _ f_Kd_).mono ?_
          rintro E wz ⟨Am1, cm1, Bm1, em1, rfl, hx, hb, hk⟩
          refine ⟨_, rfl, ?_⟩
          have m_d1 := hx.read
          clear hx hk
          have m_BA0_ := f_BA0_.below hb
          have m_BA1_ := f_BA1_.below hb
          have m_Kd_ := below_step f_Kd_ hb
          have m_hzd := Nat.le_trans f_hzd hb.size
          have m_d0 := f_d0.below hb
          have m_gx := f_gx.below hb
          have m_gx_ := ygW
          refine hK.out _ _ ⟨m_BA0_.c0, m_BA0_.c1, m_BA1_.c0, m_BA1_.c1⟩ (fun hHeld => ?_)
          clear hK K
          refine norm_ (a' := ?_) ?_ ?_
          rotate_left
          · show Act.put _ (some 31) _ = _
            simp only [Act.put, List.setIfInBounds_toArray, List.set_cons_zero, List.set_cons_succ, i64_w, i32_w]
            rfl
          exact norm_ (by simp only [putAll, Act.put, List.setIfInBounds_toArray, List.set_cons_zero, List.set_cons_succ]) (hN_m0_m1_g (Am0, cm0, Bm0, em0, Am1, cm1, Bm1, em1, gW) _ ⟨m_BA0_, m_BA1_, m_Kd_, m_hzd, m_d0, m_d1, m_gx, m_gx_⟩)
        intro hN_m0_g
        refine join_ (σ := Option Addr × Nat × Option Addr × Nat) 8 #[true, true, true, false, false, false, false, false, false, false, false] (fun s_ => [(29, .agg #[.slice s_.1 P0.length s_.2.1, .slice s_.2.2.1 T0.length s_.2.2.2])]) (fun s_ w' => (BoxAt w' (w.heap.size) 25 (.slice A0 L0.length c0) (.slice B0 T0.length e0)) ∧ (BoxAt w' (w.heap.size + 1) 25 (.slice A1 L1.length c1) (.slice B1 T1.length e1)) ∧ (Below w.heap.size w w') ∧ (w2.heap.size ≤ w'.heap.size) ∧ (ReadM w' s_.1 s_.2.1 P0 s_.2.2.1 s_.2.2.2 T0)) ?_ ?_
        · skip
          rintro ⟨Am0, cm0, Bm0, em0⟩ wn ⟨f_BA0_, f_BA1_, f_Kd_, f_hzd, f_d0⟩
          replace f_BA0_ : BoxAt wn (w.heap.size) 25 (.slice A0 L0.length c0) (.slice B0 T0.length e0) := f_BA0_
          replace f_BA1_ : BoxAt wn (w.heap.size + 1) 25 (.slice A1 L1.length c1) (.slice B1 T1.length e1) := f_BA1_
          replace f_Kd_ : Below w.heap.size w wn := f_Kd_
          replace f_hzd : w2.heap.size ≤ wn.heap.size := f_hzd
          replace f_d0 : ReadM wn Am0 cm0 P0 Bm0 em0 T0 := f_d0
          refine norm_ (a' := ?_) ?_ ?_
          rotate_left
          · simp only [putAll, Act.put, List.setIfInBounds_toArray, List.set_cons_zero, List.set_cons_succ]; rfl
          refine two_ (i := 3) (j := 8) (Ni := (some 31)) (Nj := (some 6)) #[true, true, true, true, false, false, false, false, false, false, false] #[true, true, true, false, false, false, false, false, true, false, false] rfl rfl rfl rfl (by kernel_rfl) (by decide) (by decide) (fun K hK => ?_) (fun K hK => ?_) 
          · skip
            refine goes_ Try.func11 (by kernel_rfl) rfl #[.agg #[.slice A1 L1.length c1, .slice B1 T1.length e1]] (by rfl) rfl rfl (by (try simp only [List.map_toArray, List.map_cons, List.map_nil]); first | done | rfl) ?_
            refine (HTO1.out _ f_Kd_).mono ?_
            rintro E wz ⟨Am1, cm1, Bm1, em1, rfl, hx, hb, hk⟩
            refine ⟨_, rfl, ?_⟩
            have m_d1 := hx.read
            clear hx hk
            have m_BA0_ := f_BA0_.below hb
            have m_BA1_ := f_BA1_.below hb
            have m_Kd_ := below_step f_Kd_ hb
            have m_hzd := Nat.le_trans f_hzd hb.size
            have m_d0 := f_d0.below hb
            refine hK.out _ _ ⟨m_BA0_.c0, m_BA0_.c1, m_BA1_.c0, m_BA1_.c1⟩ (fun hHeld => ?_)
            clear hK K
            refine norm_ (a' := ?_) ?_ ?_
            rotate_left
            · show Act.put _ (some 31) _ = _
              simp only [Act.put, List.setIfInBounds_toArray, List.set_cons_zero, List.set_cons_succ, i64_w, i32_w]
              rfl
            exact norm_ (by simp only [putAll, Act.put, List.setIfInBounds_toArray, List.set_cons_zero, List.set_cons_succ]) (hN_m0_m1 (Am0, cm0, Bm0, em0, Am1, cm1, Bm1, em1) _ ⟨m_BA0_, m_BA1_, m_Kd_, m_hzd, m_d0, m_d1⟩)
          · skip
            refine box_step ?hg (N := 6) ?hd (cs := #[.slice none 0 0, .slice none 0 0]) (t := 29) ?hr ?_; (case hd => rfl); (case hg => rfl); (case hr => first | (go_simp; done) | (go_simp; rfl))
            intro gW hg wz m_gx hb
            have m_gx_ : w2.heap.size ≤ gW := by rw [hg]; exact f_hzd
            have hgnew := hg
            have m_BA0_ := f_BA0_.below hb
            have m_BA1_ := f_BA1_.below hb
            have m_Kd_ := below_step f_Kd_ hb
            have m_hzd := Nat.le_trans f_hzd hb.size
            have m_d0 := f_d0.below hb
            refine hK.out _ _ ⟨m_BA0_.c0, m_BA0_.c1, m_BA1_.c0, m_BA1_.c1⟩ (fun hHeld => ?_)
            clear hK K
            refine norm_ (a' := ?_) ?_ ?_
            rotate_left
            · show Act.put _ (some 6) _ = _
              simp only [Act.put, List.setIfInBounds_toArray, List.set_cons_zero, List.set_cons_succ, i64_w, i32_w]
              rfl
            exact norm_ (by simp only [putAll, Act.put, List.setIfInBounds_toArray, List.set_cons_zero, List.set_cons_succ]) (hN_m0_g (Am0, cm0, Bm0, em0, gW) _ ⟨m_BA0_, m_BA1_, m_Kd_, m_hzd, m_d0, m_gx, m_gx_⟩)
        intro hN_m0
        refine join_ (σ := Nat) 8 #[true, false, true, false, false, false, false, false, true, false, false] (fun s_ => [(6, .pointer (some ⟨s_, 0, none⟩))]) (fun s_ w' => (BoxAt w' (w.heap.size) 25 (.slice A0 L0.length c0) (.slice B0 T0.length e0)) ∧ (BoxAt w' (w.heap.size + 1) 25 (.slice A1 L1.length c1) (.slice B1 T1.length e1)) ∧ (Below w.heap.size w w') ∧ (w2.heap.size ≤ w'.heap.size) ∧ (BoxAt w' s_ 29 (.slice none 0 0) (.slice none 0 0)) ∧ (w2.heap.size ≤ s_)) ?_ ?_
        · skip
          rintro gW wn ⟨f_BA0_, f_BA1_, f_Kd_, f_hzd, f_gx, ygW⟩
          replace f_BA0_ : BoxAt wn (w.heap.size) 25 (.slice A0 L0.length c0) (.slice B0 T0.length e0) := f_BA0_
          replace f_BA1_ : BoxAt wn (w.heap.size + 1) 25 (.slice A1 L1.length c1) (.slice B1 T1.length e1) := f_BA1_
          replace f_Kd_ : Below w.heap.size w wn := f_Kd_
          replace f_hzd : w2.heap.size ≤ wn.heap.size := f_hzd
          replace f_gx : BoxAt wn gW 29 (.slice none 0 0) (.slice none 0 0) := f_gx
          replace ygW : w2.heap.size ≤ gW := ygW
          refine norm_ (a' := ?_) ?_ ?_
          rotate_left
          · simp only [putAll, Act.put, List.setIfInBounds_toArray, List.set_cons_zero, List.set_cons_succ]; rfl
          refine one_ (i := 1) (N := (some 29)) #[true, true, true, false, false, false, false, false, true, false, false] rfl rfl (by kernel_rfl) (by decide) (fun K hK => ?_)
          refine goes_ Try.func11 (by kernel_rfl) rfl #[.agg #[.slice A0 L0.length c0, .slice B0 T0.length e0]] (by rfl) rfl rfl (by (try simp only [List.map_toArray, List.map_cons, List.map_nil]); first | done | rfl) ?_
          refine (HTO0.out _ f_Kd_).mono ?_
          rintro E wz ⟨Am0, cm0, Bm0, em0, rfl, hx, hb, hk⟩
          refine ⟨_, rfl, ?_⟩
          have m_d0 := hx.read
          clear hx hk
          have m_BA0_ := f_BA0_.below hb
          have m_BA1_ := f_BA1_.below hb
          have m_Kd_ := below_step f_Kd_ hb
          have m_hzd := Nat.le_trans f_hzd hb.size
          have m_gx := f_gx.below hb
          have m_gx_ := ygW
          refine hK.out _ _ ⟨m_BA0_.c0, m_BA0_.c1, m_BA1_.c0, m_BA1_.c1⟩ (fun hHeld => ?_)
          clear hK K
          refine norm_ (a' := ?_) ?_ ?_
          rotate_left
          · show Act.put _ (some 29) _ = _
            simp only [Act.put, List.setIfInBounds_toArray, List.set_cons_zero, List.set_cons_succ, i64_w, i32_w]
            rfl
          exact norm_ (by simp only [putAll, Act.put, List.setIfInBounds_toArray, List.set_cons_zero, List.set_cons_succ]) (hN_m0_g (Am0, cm0, Bm0, em0, gW) _ ⟨m_BA0_, m_BA1_, m_Kd_, m_hzd, m_d0, m_gx, m_gx_⟩)
        intro hN_g
        refine two_ (i := 1) (j := 8) (Ni := (some 29)) (Nj := (some 6)) #[true, true, true, false, false, false, false, false, false, false, false] #[true, false, true, false, false, false, false, false, true, false, false] rfl rfl rfl rfl (by kernel_rfl) (by decide) (by decide) (fun K hK => ?_) (fun K hK => ?_) 
        · skip
          refine goes_ Try.func11 (by kernel_rfl) rfl #[.agg #[.slice A0 L0.length c0, .slice B0 T0.length e0]] (by rfl) rfl rfl (by (try simp only [List.map_toArray, List.map_cons, List.map_nil]); first | done | rfl) ?_
          refine (HTO0.out _ Kd_.out).mono ?_
          rintro E wz ⟨Am0, cm0, Bm0, em0, rfl, hx, hb, hk⟩
          refine ⟨_, rfl, ?_⟩
          have m_d0 := hx.read
          clear hx hk
          have m_BA0_ := BA0_d.out.below hb
          have m_BA1_ := BA1_d.out.below hb
          have m_Kd_ := below_step Kd_.out hb
          have m_hzd := Nat.le_trans hzd hb.size
          refine hK.out _ _ ⟨m_BA0_.c0, m_BA0_.c1, m_BA1_.c0, m_BA1_.c1⟩ (fun hHeld => ?_)
          clear hK K
          refine norm_ (a' := ?_) ?_ ?_
          rotate_left
          · show Act.put _ (some 29) _ = _
            simp only [Act.put, List.setIfInBounds_toArray, List.set_cons_zero, List.set_cons_succ, i64_w, i32_w]
            rfl
          exact norm_ (by simp only [putAll, Act.put, List.setIfInBounds_toArray, List.set_cons_zero, List.set_cons_succ]) (hN_m0 (Am0, cm0, Bm0, em0) _ ⟨m_BA0_, m_BA1_, m_Kd_, m_hzd, m_d0⟩)
        · skip
          refine box_step ?hg (N := 6) ?hd (cs := #[.slice none 0 0, .slice none 0 0]) (t := 29) ?hr ?_; (case hd => rfl); (case hg => rfl); (case hr => first | (go_simp; done) | (go_simp; rfl))
          intro gW hg wz m_gx hb
          have m_gx_ : w2.heap.size ≤ gW := by rw [hg]; exact hzd
          have hgnew := hg
          have m_BA0_ := BA0_d.out.below hb
          have m_BA1_ := BA1_d.out.below hb
          have m_Kd_ := below_step Kd_.out hb
          have m_hzd := Nat.le_trans hzd hb.size
          refine hK.out _ _ ⟨m_BA0_.c0, m_BA0_.c1, m_BA1_.c0, m_BA1_.c1⟩ (fun hHeld => ?_)
          clear hK K
          refine norm_ (a' := ?_) ?_ ?_
          rotate_left
          · show Act.put _ (some 6) _ = _
            simp only [Act.put, List.setIfInBounds_toArray, List.set_cons_zero, List.set_cons_succ, i64_w, i32_w]
            rfl
          exact norm_ (by simp only [putAll, Act.put, List.setIfInBounds_toArray, List.set_cons_zero, List.set_cons_succ]) (hN_g (gW) _ ⟨m_BA0_, m_BA1_, m_Kd_, m_hzd, m_gx, m_gx_⟩)
      rintro ⟨Am0, cm0, Bm0, em0, Am1, cm1, Bm1, em1, PW, AW, cW, BW, eW, aW, bW, gW⟩ w3 ⟨f_BA0_, f_BA1_, f_Kd_, f_hzd, f_d0, f_d1, f_sx, f_rx, yaW, f_bx_, f_gx, ygW, yfW⟩
      replace f_BA0_ : BoxAt w3 (w.heap.size) 25 (.slice A0 L0.length c0) (.slice B0 T0.length e0) := f_BA0_
      replace f_BA1_ : BoxAt w3 (w.heap.size + 1) 25 (.slice A1 L1.length c1) (.slice B1 T1.length e1) := f_BA1_
      replace f_Kd_ : Below w.heap.size w w3 := f_Kd_
      replace f_hzd : w2.heap.size ≤ w3.heap.size := f_hzd
      replace f_d0 : ReadM w3 Am0 cm0 P0 Bm0 em0 T0 := f_d0
      replace f_d1 : ReadM w3 Am1 cm1 P1 Bm1 em1 T1 := f_d1
      replace f_sx : simP PW P' := f_sx
      replace f_rx : RefM w3 aW bW (.slice AW P'.length cW) (.slice BW R.length eW) PW R := f_rx
      replace yaW : w2.heap.size ≤ aW := yaW
      replace f_bx_ : bW ≤ w3.heap.size := f_bx_
      replace f_gx : BoxAt w3 gW 29 (.slice none 0 0) (.slice none 0 0) := f_gx
      replace ygW : w2.heap.size ≤ gW := ygW
      replace yfW : gW < aW ∨ bW ≤ gW := yfW
      refine norm_ (a' := ?_) ?_ ?_
      rotate_left
      · simp only [putAll, Act.put, List.setIfInBounds_toArray, List.set_cons_zero, List.set_cons_succ]; rfl
      have hg0 := f_gx.c0; have hg1 := f_gx.c1; have hgz0 := blk_frozen f_gx 0; have hgz1 := blk_frozen f_gx 1; have hgl := f_gx.lt
      have hk := kept_box (w := w3) (g := gW) (.slice AW P'.length cW) (.slice BW R.length eW)
      have hkb := blk_put (blk_put f_gx 0 (.slice AW P'.length cW) rfl) 1 (.slice BW R.length eW) rfl
      have hkK := below_set (j := 1) (v := (.slice BW R.length eW)) (below_set (j := 0) (v := (.slice AW P'.length cW)) f_Kd_ (by omega : w.heap.size ≤ gW)) (by omega : w.heap.size ≤ gW)
      have hBA0_ : BoxAt ((w3.setCell ⟨gW, 0, none⟩ (.slice AW P'.length cW)).setCell ⟨gW, 1, none⟩ (.slice BW R.length eW)) (w.heap.size) 25 (.slice A0 L0.length c0) (.slice B0 T0.length e0) := f_BA0_.kept hk (by omega)
      have hBA1_ : BoxAt ((w3.setCell ⟨gW, 0, none⟩ (.slice AW P'.length cW)).setCell ⟨gW, 1, none⟩ (.slice BW R.length eW)) (w.heap.size + 1) 25 (.slice A1 L1.length c1) (.slice B1 T1.length e1) := f_BA1_.kept hk (by omega)
      have hrx := f_rx.kept hk (by omega)
      refine one_ (i := 9) (N := none) #[true, true, true, true, true, true, true, true, true, true, false] rfl rfl (by kernel_rfl) (by decide) (fun K hK => ?_)
      refine skip_ (w1 := ?_) (by rfl) rfl ?_ ?_
      rotate_left
      · go_simp
        rfl
      refine hK.out _ _ ⟨BoxAt.c0 hBA0_, BoxAt.c1 hBA0_, BoxAt.c0 hBA1_, BoxAt.c1 hBA1_⟩ (fun hHeld => ?_)
      clear hK K
      refine pure_ (i := 10) (N := (some 7)) (v := ?_) (a' := ?_) #[true, true, true, true, true, true, true, true, true, true, true] rfl rfl (by kernel_rfl) (fun _ _ _ h => h) (Or.inl ⟨by rfl, ?_⟩) ?_ ?_
      rotate_left
      · intro w'
        go_simp
        with_reducible rfl
      rotate_left
      · simp only [Act.put, List.setIfInBounds_toArray, List.set_cons_zero, List.set_cons_succ, i64_w, i32_w]; rfl
      refine done_ (by kernel_rfl) ?_
      obtain ⟨w4, hw⟩ : ∃ W, W = ((w3.setCell ⟨gW, 0, none⟩ (.slice AW P'.length cW)).setCell ⟨gW, 1, none⟩ (.slice BW R.length eW)) := ⟨_, rfl⟩
      have hszk : w4.heap.size = w3.heap.size := by rw [hw]; simp [World.setCell]
      rw [← hw] at hBA0_ hBA1_ hrx hkb hkK ⊢
      have BA0_4 := Lib.hid hBA0_
      have ba0_c4 := BA0_4.out.c0
      have ba0_d4 := BA0_4.out.c1
      have BA1_4 := Lib.hid hBA1_
      have ba1_c4 := BA1_4.out.c0
      have ba1_d4 := BA1_4.out.c1
      have W4 := Lib.hid hrx; have SW4 := Lib.hid f_sx
      have BW4 := Lib.hid (show BoxAt w4 gW 29 (.slice AW P'.length cW) (.slice BW R.length eW) from hkb); have bwc4 := BW4.out.c0; have bwd4 := BW4.out.c1
      have K4 := Lib.hid hkK; have z4 : w2.heap.size ≤ w4.heap.size := by rw [hszk]; exact f_hzd
      have y4 : gW < w4.heap.size := by rw [hszk]; exact hgl
      have y4b : bW ≤ w4.heap.size := by rw [hszk]; exact f_bx_
      clear hw hg0 hg1 hgz0 hgz1 hgl hk hkb hkK hrx hszk hHeld hBA0_ hBA1_ f_BA0_ f_BA1_ f_Kd_ f_hzd f_sx f_rx f_gx f_bx_ f_d0 f_d1
      go_wp2_with (first
        | (go_at_call 11; first
            | (rw [← WW6.out]; refine (HTO1.out _ K6.out).mono ?_; rintro E w7 ⟨A7, c7, B7, e7, rfl, hx, hb, hkk⟩; have z7 := hb.size; have BA0_7 := Lib.hid (BA0_6.out.below hb); have ba0_c7 := BA0_7.out.c0; have ba0_d7 := BA0_7.out.c1; (try clear ba0_c6 ba0_d6); have BA1_7 := Lib.hid (BA1_6.out.below hb); have ba1_c7 := BA1_7.out.c0; have ba1_d7 := BA1_7.out.c1; (try clear ba1_c6 ba1_d6); have W7 := Lib.hid (W6.out.below hb); have BW7 := Lib.hid (BW6.out.below hb); have bwc7 := BW7.out.c0; have bwd7 := BW7.out.c1; (try clear bwc6 bwd6); have X0_7 := Lib.hid (X0_6.out.below hb); have BX0_7 := Lib.hid (BX0_6.out.below hb); have bx0_c7 := BX0_7.out.c0; have bx0_d7 := BX0_7.out.c1; (try clear bx0_c6 bx0_d6); have K7 := Lib.hid (below_then K6.out hb K6.out.size); (try clear u0 u1); (try clear lba0_c lba0_d); (try clear lba1_c lba1_d); (try clear lbwc lbwd); (try clear lbx0_c lbx0_d); have hv := below_alloc (Below.refl w7.heap.size w7) (.cells #[.slice A7 P1.length c7, .slice B7 T1.length e7] 29); have hn := BoxAt.new w7 29 (.slice A7 P1.length c7) (.slice B7 T1.length e7); have u0 := hn.c0; have u1 := hn.c1; have hBA0_ := BA0_7.out.below hv; have lba0_c := hBA0_.c0; have lba0_d := hBA0_.c1; have hBA1_ := BA1_7.out.below hv; have lba1_c := hBA1_.c0; have lba1_d := hBA1_.c1; have hBW := BW7.out.below hv; have lbwc := hBW.c0; have lbwd := hBW.c1; have hBX0_ := BX0_7.out.below hv; have lbx0_c := hBX0_.c0; have lbx0_d := hBX0_.c1; obtain ⟨w8, hw8⟩ : ∃ w8, w8 = (w7.alloc (.cells #[.slice A7 P1.length c7, .slice B7 T1.length e7] 29)) := ⟨_, rfl⟩; have hv8 := hv; have hn8 := hn; rw [← hw8] at hv8 hn8; have z8 := hv8.size; have y8 := hn8.lt; have BA0_8 := Lib.hid (BA0_7.out.below hv8); have ba0_c8 := BA0_8.out.c0; have ba0_d8 := BA0_8.out.c1; (try clear ba0_c7 ba0_d7); have BA1_8 := Lib.hid (BA1_7.out.below hv8); have ba1_c8 := BA1_8.out.c0; have ba1_d8 := BA1_8.out.c1; (try clear ba1_c7 ba1_d7); have W8 := Lib.hid (W7.out.below hv8); have BW8 := Lib.hid (BW7.out.below hv8); have bwc8 := BW8.out.c0; have bwd8 := BW8.out.c1; (try clear bwc7 bwd7); have X0_8 := Lib.hid (X0_7.out.below hv8); have BX0_8 := Lib.hid (BX0_7.out.below hv8); have bx0_c8 := BX0_8.out.c0; have bx0_d8 := BX0_8.out.c1; (try clear bx0_c7 bx0_d7); have X1_8 := Lib.hid (hx.below hv8); have BX1_8 := Lib.hid hn8; have bx1_c8 := BX1_8.out.c0; have bx1_d8 := BX1_8.out.c1; have K8 := Lib.hid (below_then K7.out hv8 K7.out.size); have WW8 := Lib.hid hw8; clear hv hn hv8 hn8 hw8; clear hBA0_; clear hBA1_; clear hBW; clear hBX0_; clear hb hx hkk; skip)
            | (refine (HTO0.out _ K4.out).mono ?_; rintro E w5 ⟨A5, c5, B5, e5, rfl, hx, hb, hkk⟩; have z5 := hb.size; have BA0_5 := Lib.hid (BA0_4.out.below hb); have ba0_c5 := BA0_5.out.c0; have ba0_d5 := BA0_5.out.c1; (try clear ba0_c4 ba0_d4); have BA1_5 := Lib.hid (BA1_4.out.below hb); have ba1_c5 := BA1_5.out.c0; have ba1_d5 := BA1_5.out.c1; (try clear ba1_c4 ba1_d4); have W5 := Lib.hid (W4.out.below hb); have BW5 := Lib.hid (BW4.out.below hb); have bwc5 := BW5.out.c0; have bwd5 := BW5.out.c1; (try clear bwc4 bwd4); have K5 := Lib.hid (below_then K4.out hb K4.out.size); have hv := below_alloc (Below.refl w5.heap.size w5) (.cells #[.slice A5 P0.length c5, .slice B5 T0.length e5] 29); have hn := BoxAt.new w5 29 (.slice A5 P0.length c5) (.slice B5 T0.length e5); have u0 := hn.c0; have u1 := hn.c1; have hBA0_ := BA0_5.out.below hv; have lba0_c := hBA0_.c0; have lba0_d := hBA0_.c1; have hBA1_ := BA1_5.out.below hv; have lba1_c := hBA1_.c0; have lba1_d := hBA1_.c1; have hBW := BW5.out.below hv; have lbwc := hBW.c0; have lbwd := hBW.c1; obtain ⟨w6, hw6⟩ : ∃ w6, w6 = (w5.alloc (.cells #[.slice A5 P0.length c5, .slice B5 T0.length e5] 29)) := ⟨_, rfl⟩; have hv6 := hv; have hn6 := hn; rw [← hw6] at hv6 hn6; have z6 := hv6.size; have y6 := hn6.lt; have BA0_6 := Lib.hid (BA0_5.out.below hv6); have ba0_c6 := BA0_6.out.c0; have ba0_d6 := BA0_6.out.c1; (try clear ba0_c5 ba0_d5); have BA1_6 := Lib.hid (BA1_5.out.below hv6); have ba1_c6 := BA1_6.out.c0; have ba1_d6 := BA1_6.out.c1; (try clear ba1_c5 ba1_d5); have W6 := Lib.hid (W5.out.below hv6); have BW6 := Lib.hid (BW5.out.below hv6); have bwc6 := BW6.out.c0; have bwd6 := BW6.out.c1; (try clear bwc5 bwd5); have X0_6 := Lib.hid (hx.below hv6); have BX0_6 := Lib.hid hn6; have bx0_c6 := BX0_6.out.c0; have bx0_d6 := BX0_6.out.c1; have K6 := Lib.hid (below_then K5.out hv6 K5.out.size); have WW6 := Lib.hid hw6; clear hv hn hv6 hn6 hw6; clear hBA0_; clear hBA1_; clear hBW; clear hb hx hkk; skip))
        | (go_at_call 22; rw [← WW8.out]; refine (H2.out _ _ _ _ _ _ _ _ _ X0_8.out.read X1_8.out.read).mono ?_; rintro E w9 ⟨PG, A9, c9, B9, e9, hs, rfl, hx, hb⟩; have z9 := hb.size; have BA0_9 := Lib.hid (BA0_8.out.below hb); have ba0_c9 := BA0_9.out.c0; have ba0_d9 := BA0_9.out.c1; (try clear ba0_c8 ba0_d8); have BA1_9 := Lib.hid (BA1_8.out.below hb); have ba1_c9 := BA1_9.out.c0; have ba1_d9 := BA1_9.out.c1; (try clear ba1_c8 ba1_d8); have W9 := Lib.hid (W8.out.below hb); have BW9 := Lib.hid (BW8.out.below hb); have bwc9 := BW9.out.c0; have bwd9 := BW9.out.c1; (try clear bwc8 bwd8); have X0_9 := Lib.hid (X0_8.out.below hb); have BX0_9 := Lib.hid (BX0_8.out.below hb); have bx0_c9 := BX0_9.out.c0; have bx0_d9 := BX0_9.out.c1; (try clear bx0_c8 bx0_d8); have X1_9 := Lib.hid (X1_8.out.below hb); have BX1_9 := Lib.hid (BX1_8.out.below hb); have bx1_c9 := BX1_9.out.c0; have bx1_d9 := BX1_9.out.c1; (try clear bx1_c8 bx1_d8); have K9 := Lib.hid (below_then K8.out hb K8.out.size); (try clear u0 u1); (try clear lba0_c lba0_d); (try clear lba1_c lba1_d); (try clear lbwc lbwd); (try clear lbx0_c lbx0_d); (try clear lbx1_c lbx1_d); have SG9 := Lib.hid hs; have hv := below_alloc (Below.refl w9.heap.size w9) (.cells #[.slice A9 P'.length c9, .slice B9 R.length e9] 29); have hn := BoxAt.new w9 29 (.slice A9 P'.length c9) (.slice B9 R.length e9); have u0 := hn.c0; have u1 := hn.c1; have hBA0_ := BA0_9.out.below hv; have lba0_c := hBA0_.c0; have lba0_d := hBA0_.c1; have hBA1_ := BA1_9.out.below hv; have lba1_c := hBA1_.c0; have lba1_d := hBA1_.c1; have hBW := BW9.out.below hv; have lbwc := hBW.c0; have lbwd := hBW.c1; have hBX0_ := BX0_9.out.below hv; have lbx0_c := hBX0_.c0; have lbx0_d := hBX0_.c1; have hBX1_ := BX1_9.out.below hv; have lbx1_c := hBX1_.c0; have lbx1_d := hBX1_.c1; obtain ⟨w10, hw10⟩ : ∃ w10, w10 = (w9.alloc (.cells #[.slice A9 P'.length c9, .slice B9 R.length e9] 29)) := ⟨_, rfl⟩; have hv10 := hv; have hn10 := hn; rw [← hw10] at hv10 hn10; have z10 := hv10.size; have y10 := hn10.lt; have BA0_10 := Lib.hid (BA0_9.out.below hv10); have ba0_c10 := BA0_10.out.c0; have ba0_d10 := BA0_10.out.c1; (try clear ba0_c9 ba0_d9); have BA1_10 := Lib.hid (BA1_9.out.below hv10); have ba1_c10 := BA1_10.out.c0; have ba1_d10 := BA1_10.out.c1; (try clear ba1_c9 ba1_d9); have W10 := Lib.hid (W9.out.below hv10); have BW10 := Lib.hid (BW9.out.below hv10); have bwc10 := BW10.out.c0; have bwd10 := BW10.out.c1; (try clear bwc9 bwd9); have X0_10 := Lib.hid (X0_9.out.below hv10); have BX0_10 := Lib.hid (BX0_9.out.below hv10); have bx0_c10 := BX0_10.out.c0; have bx0_d10 := BX0_10.out.c1; (try clear bx0_c9 bx0_d9); have X1_10 := Lib.hid (X1_9.out.below hv10); have BX1_10 := Lib.hid (BX1_9.out.below hv10); have bx1_c10 := BX1_10.out.c0; have bx1_d10 := BX1_10.out.c1; (try clear bx1_c9 bx1_d9); have G10 := Lib.hid (hx.below hv10); have BG10 := Lib.hid hn10; have bgc10 := BG10.out.c0; have bgd10 := BG10.out.c1; have K10 := Lib.hid (below_then K9.out hv10 K9.out.size); have WW10 := Lib.hid hw10; clear hv hn hv10 hn10 hw10; clear hBA0_; clear hBA1_; clear hBW; clear hBX0_; clear hBX1_; clear hb hx hs; skip)
        | (go_at_call 13; rw [← WW10.out]; refine (eqr_step P' _ _ R SG9.out SW4.out hp1 HR1.out HR2.out _ _ _ _ _ _ _ _ _ (OwnM.readn SG9.out G10.out) (RefM.readn SW4.out W10.out)).mono ?_; rintro E w11 ⟨rfl, hb⟩; have z11 := hb.size; have BA0_11 := Lib.hid (BA0_10.out.below hb); have ba0_c11 := BA0_11.out.c0; have ba0_d11 := BA0_11.out.c1; (try clear ba0_c10 ba0_d10); have BA1_11 := Lib.hid (BA1_10.out.below hb); have ba1_c11 := BA1_11.out.c0; have ba1_d11 := BA1_11.out.c1; (try clear ba1_c10 ba1_d10); have W11 := Lib.hid (W10.out.below hb); have BW11 := Lib.hid (BW10.out.below hb); have bwc11 := BW11.out.c0; have bwd11 := BW11.out.c1; (try clear bwc10 bwd10); have X0_11 := Lib.hid (X0_10.out.below hb); have BX0_11 := Lib.hid (BX0_10.out.below hb); have bx0_c11 := BX0_11.out.c0; have bx0_d11 := BX0_11.out.c1; (try clear bx0_c10 bx0_d10); have X1_11 := Lib.hid (X1_10.out.below hb); have BX1_11 := Lib.hid (BX1_10.out.below hb); have bx1_c11 := BX1_11.out.c0; have bx1_d11 := BX1_11.out.c1; (try clear bx1_c10 bx1_d10); have G11 := Lib.hid (G10.out.below hb); have BG11 := Lib.hid (BG10.out.below hb); have bgc11 := BG11.out.c0; have bgd11 := BG11.out.c1; (try clear bgc10 bgd10); have K11 := Lib.hid (below_then K10.out hb K10.out.size); (try clear u0 u1); (try clear lba0_c lba0_d); (try clear lba1_c lba1_d); (try clear lbwc lbwd); (try clear lbx0_c lbx0_d); (try clear lbx1_c lbx1_d); (try clear lbgc lbgd); clear hb; skip)
        | fail)
      have BA0_d := Lib.hid (show BoxAt w11.drew (w.heap.size) 25 (.slice A0 L0.length c0) (.slice B0 T0.length e0) from BA0_11.out.below (Below.drew (Below.refl _ _)))
      have BA1_d := Lib.hid (show BoxAt w11.drew (w.heap.size + 1) 25 (.slice A1 L1.length c1) (.slice B1 T1.length e1) from BA1_11.out.below (Below.drew (Below.refl _ _)))
      have Wd := Lib.hid (show RefM w11.drew aW bW (.slice AW P'.length cW) (.slice BW R.length eW) PW R from W11.out.below (Below.drew (Below.refl _ _)))
      have BWd := Lib.hid (show BoxAt w11.drew gW 29 (.slice AW P'.length cW) (.slice BW R.length eW) from BW11.out.below (Below.drew (Below.refl _ _)))
      have X0_d := Lib.hid (show OwnM w11.drew w4.heap.size w5.heap.size (.slice A5 P0.length c5) (.slice B5 T0.length e5) P0 T0 from X0_11.out.below (Below.drew (Below.refl _ _)))
      have BX0_d := Lib.hid (show BoxAt w11.drew w5.heap.size 29 (.slice A5 P0.length c5) (.slice B5 T0.length e5) from BX0_11.out.below (Below.drew (Below.refl _ _)))
      have X1_d := Lib.hid (show OwnM w11.drew w6.heap.size w7.heap.size (.slice A7 P1.length c7) (.slice B7 T1.length e7) P1 T1 from X1_11.out.below (Below.drew (Below.refl _ _)))
      have BX1_d := Lib.hid (show BoxAt w11.drew w7.heap.size 29 (.slice A7 P1.length c7) (.slice B7 T1.length e7) from BX1_11.out.below (Below.drew (Below.refl _ _)))
      have Gd := Lib.hid (show OwnM w11.drew w8.heap.size w9.heap.size (.slice A9 P'.length c9) (.slice B9 R.length e9) PG R from G11.out.below (Below.drew (Below.refl _ _)))
      have BGd := Lib.hid (show BoxAt w11.drew w9.heap.size 29 (.slice A9 P'.length c9) (.slice B9 R.length e9) from BG11.out.below (Below.drew (Below.refl _ _)))
      have Kd_ := Lib.hid (Below.drew K11.out); have hzd : w11.heap.size ≤ w11.drew.heap.size := Nat.le_refl _
      refine start_ (n := 5) (S := fun w' => w'.cell? ⟨w5.heap.size, 0, none⟩ = some (.slice A5 P0.length c5) ∧ w'.cell? ⟨w5.heap.size, 1, none⟩ = some (.slice B5 T0.length e5) ∧ w'.cell? ⟨w.heap.size, 0, none⟩ = some (.slice A0 L0.length c0) ∧ w'.cell? ⟨w.heap.size, 1, none⟩ = some (.slice B0 T0.length e0)) (ds := []) #[false, false, false, false, false] (by kernel_rfl) rfl rfl ⟨BX0_d.out.c0, BX0_d.out.c1, BA0_d.out.c0, BA0_d.out.c1⟩ (fun hHeld => ?_)
      generalize w11.drew = wd11 at BA0_d BA1_d Wd BWd X0_d BX0_d X1_d BX1_d Gd BGd Kd_ hzd hHeld ⊢
      clear BA0_11 BA1_11 W11 BW11 X0_11 BX0_11 X1_11 BX1_11 G11 BG11 K11 ba0_c11 ba0_d11 ba1_c11 ba1_d11 bwc11 bwd11 bx0_c11 bx0_d11 bx1_c11 bx1_d11 bgc11 bgd11
      refine take_ (i := 0) (N := (some 54)) (v := ?_) (a' := ?_) #[true, false, false, false, false] rfl rfl (by kernel_rfl) (fun _ _ _ h => h) (Or.inl ⟨by rfl, ?_⟩) hHeld ?_ ?_
      rotate_left
      · intro w' hSw
        (try dsimp only at hSw)
        go_simp
        with_reducible rfl
      rotate_left
      · simp only [Act.put, List.setIfInBounds_toArray, List.set_cons_zero, List.set_cons_succ, i64_w, i32_w]; rfl
      refine take_ (i := 1) (N := (some 55)) (v := ?_) (a' := ?_) #[true, true, false, false, false] rfl rfl (by kernel_rfl) (fun _ _ _ h => h) (Or.inl ⟨by rfl, ?_⟩) hHeld ?_ ?_
      rotate_left
      · intro w' hSw
        (try dsimp only at hSw)
        go_simp
        with_reducible rfl
      rotate_left
      · simp only [Act.put, List.setIfInBounds_toArray, List.set_cons_zero, List.set_cons_succ, i64_w, i32_w]; rfl
      refine one_ (i := 2) (N := (some 56)) #[true, true, true, false, false] rfl rfl (by kernel_rfl) (by decide) (fun K hK => ?_)
      refine goes_ Try.func11 (by kernel_rfl) rfl #[.agg #[.slice A0 L0.length c0, .slice B0 T0.length e0]] (by rfl) rfl rfl (by (try simp only [List.map_toArray, List.map_cons, List.map_nil]); first | done | rfl) ?_
      refine (HTO0.out _ Kd_.out).mono ?_
      rintro E w12 ⟨Am, cm, Bm, em, rfl, hx, hb, hk⟩
      have BA0_12 := Lib.hid (BA0_d.out.below hb); have BA1_12 := Lib.hid (BA1_d.out.below hb); have W12 := Lib.hid (Wd.out.below hb); have BW12 := Lib.hid (BWd.out.below hb); have X0_12 := Lib.hid (X0_d.out.below hb); have BX0_12 := Lib.hid (BX0_d.out.below hb); have X1_12 := Lib.hid (X1_d.out.below hb); have BX1_12 := Lib.hid (BX1_d.out.below hb); have G12 := Lib.hid (Gd.out.below hb); have BG12 := Lib.hid (BGd.out.below hb)
      have K12 := Lib.hid (below_step Kd_.out hb)
      have z12 : w11.heap.size ≤ w12.heap.size := Nat.le_trans hzd hb.size
      have HX := Lib.hid hx.read
      clear hx hk hb Kd_ BA0_d BA1_d Wd BWd X0_d BX0_d X1_d BX1_d Gd BGd
      refine ⟨_, rfl, ?_⟩
      refine hK.out _ _ ⟨BX0_12.out.c0, BX0_12.out.c1, BA0_12.out.c0, BA0_12.out.c1⟩ (fun hHeld => ?_)
      clear hK K
      refine norm_ (a' := ?_) ?_ ?_
      rotate_left
      · show Act.put _ (some 56) _ = _
        simp only [Act.put, List.setIfInBounds_toArray, List.set_cons_zero, List.set_cons_succ, i64_w, i32_w]
        rfl
      refine one_ (i := 3) (N := (some 57)) #[true, true, true, true, false] rfl rfl (by kernel_rfl) (by decide) (fun K hK => ?_)
      refine goes_ Try.func13 (by kernel_rfl) rfl #[.agg #[.slice A5 P0.length c5, .slice B5 T0.length e5], .agg #[.slice Am P0.length cm, .slice Bm T0.length em]] (by rfl) rfl rfl (by (try simp only [List.map_toArray, List.map_cons, List.map_nil]); first | done | rfl) ?_
      refine (eqr_step P0 _ _ T0 HSI0.out HSI0.out hb0 HA0.out HB0.out _ _ _ _ _ _ _ _ _ X0_12.out.read HX.out).mono ?_
      rintro E w13 ⟨rfl, hb⟩
      have BA0_13 := Lib.hid (BA0_12.out.below hb); have BA1_13 := Lib.hid (BA1_12.out.below hb); have W13 := Lib.hid (W12.out.below hb); have BW13 := Lib.hid (BW12.out.below hb); have X0_13 := Lib.hid (X0_12.out.below hb); have BX0_13 := Lib.hid (BX0_12.out.below hb); have X1_13 := Lib.hid (X1_12.out.below hb); have BX1_13 := Lib.hid (BX1_12.out.below hb); have G13 := Lib.hid (G12.out.below hb); have BG13 := Lib.hid (BG12.out.below hb)
      have K13 := Lib.hid (below_step K12.out hb)
      have z13 : w11.heap.size ≤ w13.heap.size := Nat.le_trans z12 hb.size
      clear hb HX K12 z12 BA0_12 BA1_12 W12 BW12 X0_12 BX0_12 X1_12 BX1_12 G12 BG12
      refine ⟨_, rfl, ?_⟩
      refine hK.out _ _ ⟨BX0_13.out.c0, BX0_13.out.c1, BA0_13.out.c0, BA0_13.out.c1⟩ (fun hHeld => ?_)
      clear hK K
      refine norm_ (a' := ?_) ?_ ?_
      rotate_left
      · show Act.put _ (some 57) _ = _
        simp only [Act.put, List.setIfInBounds_toArray, List.set_cons_zero, List.set_cons_succ, i64_w, i32_w]
        rfl
      refine pure_ (i := 4) (N := (some 58)) (v := ?_) (a' := ?_) #[true, true, true, true, true] rfl rfl (by kernel_rfl) (fun _ _ _ h => h) (Or.inl ⟨by rfl, ?_⟩) ?_ ?_
      rotate_left
      · intro w'
        go_simp
        with_reducible rfl
      rotate_left
      · simp only [Act.put, List.setIfInBounds_toArray, List.set_cons_zero, List.set_cons_succ, i64_w, i32_w]; rfl
      refine done_ (by kernel_rfl) ?_
      clear hHeld hzd
      have ba0_c13 := BA0_13.out.c0
      have ba0_d13 := BA0_13.out.c1
      have ba1_c13 := BA1_13.out.c0
      have ba1_d13 := BA1_13.out.c1
      have bwc13 := BW13.out.c0
      have bwd13 := BW13.out.c1
      have bx0_c13 := BX0_13.out.c0
      have bx0_d13 := BX0_13.out.c1
      have bx1_c13 := BX1_13.out.c0
      have bx1_d13 := BX1_13.out.c1
      have bgc13 := BG13.out.c0
      have bgd13 := BG13.out.c1
      skip
      go_wp2_with fail
      have BA0_d := Lib.hid (show BoxAt w13.drew (w.heap.size) 25 (.slice A0 L0.length c0) (.slice B0 T0.length e0) from BA0_13.out.below (Below.drew (Below.refl _ _)))
      have BA1_d := Lib.hid (show BoxAt w13.drew (w.heap.size + 1) 25 (.slice A1 L1.length c1) (.slice B1 T1.length e1) from BA1_13.out.below (Below.drew (Below.refl _ _)))
      have Wd := Lib.hid (show RefM w13.drew aW bW (.slice AW P'.length cW) (.slice BW R.length eW) PW R from W13.out.below (Below.drew (Below.refl _ _)))
      have BWd := Lib.hid (show BoxAt w13.drew gW 29 (.slice AW P'.length cW) (.slice BW R.length eW) from BW13.out.below (Below.drew (Below.refl _ _)))
      have X0_d := Lib.hid (show OwnM w13.drew w4.heap.size w5.heap.size (.slice A5 P0.length c5) (.slice B5 T0.length e5) P0 T0 from X0_13.out.below (Below.drew (Below.refl _ _)))
      have BX0_d := Lib.hid (show BoxAt w13.drew w5.heap.size 29 (.slice A5 P0.length c5) (.slice B5 T0.length e5) from BX0_13.out.below (Below.drew (Below.refl _ _)))
      have X1_d := Lib.hid (show OwnM w13.drew w6.heap.size w7.heap.size (.slice A7 P1.length c7) (.slice B7 T1.length e7) P1 T1 from X1_13.out.below (Below.drew (Below.refl _ _)))
      have BX1_d := Lib.hid (show BoxAt w13.drew w7.heap.size 29 (.slice A7 P1.length c7) (.slice B7 T1.length e7) from BX1_13.out.below (Below.drew (Below.refl _ _)))
      have Gd := Lib.hid (show OwnM w13.drew w8.heap.size w9.heap.size (.slice A9 P'.length c9) (.slice B9 R.length e9) PG R from G13.out.below (Below.drew (Below.refl _ _)))
      have BGd := Lib.hid (show BoxAt w13.drew w9.heap.size 29 (.slice A9 P'.length c9) (.slice B9 R.length e9) from BG13.out.below (Below.drew (Below.refl _ _)))
      have Kd_ := Lib.hid (Below.drew K13.out); have hzd : w13.heap.size ≤ w13.drew.heap.size := Nat.le_refl _
      refine start_ (n := 5) (S := fun w' => w'.cell? ⟨w7.heap.size, 0, none⟩ = some (.slice A7 P1.length c7) ∧ w'.cell? ⟨w7.heap.size, 1, none⟩ = some (.slice B7 T1.length e7) ∧ w'.cell? ⟨w.heap.size + 1, 0, none⟩ = some (.slice A1 L1.length c1) ∧ w'.cell? ⟨w.heap.size + 1, 1, none⟩ = some (.slice B1 T1.length e1)) (ds := []) #[false, false, false, false, false] (by kernel_rfl) rfl rfl ⟨BX1_d.out.c0, BX1_d.out.c1, BA1_d.out.c0, BA1_d.out.c1⟩ (fun hHeld => ?_)
      generalize w13.drew = wd13 at BA0_d BA1_d Wd BWd X0_d BX0_d X1_d BX1_d Gd BGd Kd_ hzd hHeld ⊢
      clear BA0_13 BA1_13 W13 BW13 X0_13 BX0_13 X1_13 BX1_13 G13 BG13 K13 ba0_c13 ba0_d13 ba1_c13 ba1_d13 bwc13 bwd13 bx0_c13 bx0_d13 bx1_c13 bx1_d13 bgc13 bgd13
      refine take_ (i := 0) (N := (some 59)) (v := ?_) (a' := ?_) #[true, false, false, false, false] rfl rfl (by kernel_rfl) (fun _ _ _ h => h) (Or.inl ⟨by rfl, ?_⟩) hHeld ?_ ?_
      rotate_left
      · intro w' hSw
        (try dsimp only at hSw)
        go_simp
        with_reducible rfl
      rotate_left
      · simp only [Act.put, List.setIfInBounds_toArray, List.set_cons_zero, List.set_cons_succ, i64_w, i32_w]; rfl
      refine take_ (i := 1) (N := (some 60)) (v := ?_) (a' := ?_) #[true, true, false, false, false] rfl rfl (by kernel_rfl) (fun _ _ _ h => h) (Or.inl ⟨by rfl, ?_⟩) hHeld ?_ ?_
      rotate_left
      · intro w' hSw
        (try dsimp only at hSw)
        go_simp
        with_reducible rfl
      rotate_left
      · simp only [Act.put, List.setIfInBounds_toArray, List.set_cons_zero, List.set_cons_succ, i64_w, i32_w]; rfl
      refine one_ (i := 2) (N := (some 61)) #[true, true, true, false, false] rfl rfl (by kernel_rfl) (by decide) (fun K hK => ?_)
      refine goes_ Try.func11 (by kernel_rfl) rfl #[.agg #[.slice A1 L1.length c1, .slice B1 T1.length e1]] (by rfl) rfl rfl (by (try simp only [List.map_toArray, List.map_cons, List.map_nil]); first | done | rfl) ?_
      refine (HTO1.out _ Kd_.out).mono ?_
      rintro E w14 ⟨Am, cm, Bm, em, rfl, hx, hb, hk⟩
      have BA0_14 := Lib.hid (BA0_d.out.below hb); have BA1_14 := Lib.hid (BA1_d.out.below hb); have W14 := Lib.hid (Wd.out.below hb); have BW14 := Lib.hid (BWd.out.below hb); have X0_14 := Lib.hid (X0_d.out.below hb); have BX0_14 := Lib.hid (BX0_d.out.below hb); have X1_14 := Lib.hid (X1_d.out.below hb); have BX1_14 := Lib.hid (BX1_d.out.below hb); have G14 := Lib.hid (Gd.out.below hb); have BG14 := Lib.hid (BGd.out.below hb)
      have K14 := Lib.hid (below_step Kd_.out hb)
      have z14 : w13.heap.size ≤ w14.heap.size := Nat.le_trans hzd hb.size
      have HX := Lib.hid hx.read
      clear hx hk hb Kd_ BA0_d BA1_d Wd BWd X0_d BX0_d X1_d BX1_d Gd BGd
      refine ⟨_, rfl, ?_⟩
      refine hK.out _ _ ⟨BX1_14.out.c0, BX1_14.out.c1, BA1_14.out.c0, BA1_14.out.c1⟩ (fun hHeld => ?_)
      clear hK K
      refine norm_ (a' := ?_) ?_ ?_
      rotate_left
      · show Act.put _ (some 61) _ = _
        simp only [Act.put, List.setIfInBounds_toArray, List.set_cons_zero, List.set_cons_succ, i64_w, i32_w]
        rfl
      refine one_ (i := 3) (N := (some 62)) #[true, true, true, true, false] rfl rfl (by kernel_rfl) (by decide) (fun K hK => ?_)
      refine goes_ Try.func13 (by kernel_rfl) rfl #[.agg #[.slice A7 P1.length c7, .slice B7 T1.length e7], .agg #[.slice Am P1.length cm, .slice Bm T1.length em]] (by rfl) rfl rfl (by (try simp only [List.map_toArray, List.map_cons, List.map_nil]); first | done | rfl) ?_
      refine (eqr_step P1 _ _ T1 HSI1.out HSI1.out hb1 HA1.out HB1.out _ _ _ _ _ _ _ _ _ X1_14.out.read HX.out).mono ?_
      rintro E w15 ⟨rfl, hb⟩
      have BA0_15 := Lib.hid (BA0_14.out.below hb); have BA1_15 := Lib.hid (BA1_14.out.below hb); have W15 := Lib.hid (W14.out.below hb); have BW15 := Lib.hid (BW14.out.below hb); have X0_15 := Lib.hid (X0_14.out.below hb); have BX0_15 := Lib.hid (BX0_14.out.below hb); have X1_15 := Lib.hid (X1_14.out.below hb); have BX1_15 := Lib.hid (BX1_14.out.below hb); have G15 := Lib.hid (G14.out.below hb); have BG15 := Lib.hid (BG14.out.below hb)
      have K15 := Lib.hid (below_step K14.out hb)
      have z15 : w13.heap.size ≤ w15.heap.size := Nat.le_trans z14 hb.size
      clear hb HX K14 z14 BA0_14 BA1_14 W14 BW14 X0_14 BX0_14 X1_14 BX1_14 G14 BG14
      refine ⟨_, rfl, ?_⟩
      refine hK.out _ _ ⟨BX1_15.out.c0, BX1_15.out.c1, BA1_15.out.c0, BA1_15.out.c1⟩ (fun hHeld => ?_)
      clear hK K
      refine norm_ (a' := ?_) ?_ ?_
      rotate_left
      · show Act.put _ (some 62) _ = _
        simp only [Act.put, List.setIfInBounds_toArray, List.set_cons_zero, List.set_cons_succ, i64_w, i32_w]
        rfl
      refine pure_ (i := 4) (N := (some 63)) (v := ?_) (a' := ?_) #[true, true, true, true, true] rfl rfl (by kernel_rfl) (fun _ _ _ h => h) (Or.inl ⟨by rfl, ?_⟩) ?_ ?_
      rotate_left
      · intro w'
        go_simp
        with_reducible rfl
      rotate_left
      · simp only [Act.put, List.setIfInBounds_toArray, List.set_cons_zero, List.set_cons_succ, i64_w, i32_w]; rfl
      refine done_ (by kernel_rfl) ?_
      clear hHeld hzd
      have ba0_c15 := BA0_15.out.c0
      have ba0_d15 := BA0_15.out.c1
      have ba1_c15 := BA1_15.out.c0
      have ba1_d15 := BA1_15.out.c1
      have bwc15 := BW15.out.c0
      have bwd15 := BW15.out.c1
      have bx0_c15 := BX0_15.out.c0
      have bx0_d15 := BX0_15.out.c1
      have bx1_c15 := BX1_15.out.c0
      have bx1_d15 := BX1_15.out.c1
      have bgc15 := BG15.out.c0
      have bgd15 := BG15.out.c1
      skip
      go_wp2_with (first
        | (go_at_call 14; first
            | (refine (markMs_step P' _ R SG9.out hp1 HR1.out HR2.out 1 (by omega) (by omega) _ _ _ _ _ _ _ G18.out w K18.out (by omega) (by omega)).mono ?_; rintro E w19 ⟨rfl, hx, hk, hbk⟩; have z19 := hk.1; have BA0_19 := Lib.hid (BA0_18.out.kept hk (by omega)); have ba0_c19 := BA0_19.out.c0; have ba0_d19 := BA0_19.out.c1; (try clear ba0_c18 ba0_d18); have BA1_19 := Lib.hid (BA1_18.out.kept hk (by omega)); have ba1_c19 := BA1_19.out.c0; have ba1_d19 := BA1_19.out.c1; (try clear ba1_c18 ba1_d18); have W19 := Lib.hid (W18.out.kept hk (by omega)); have BW19 := Lib.hid (BW18.out.kept hk (by omega)); have bwc19 := BW19.out.c0; have bwd19 := BW19.out.c1; (try clear bwc18 bwd18); have BG19 := Lib.hid (BG18.out.kept hk (by omega)); have bgc19 := BG19.out.c0; have bgd19 := BG19.out.c1; (try clear bgc18 bgd18); have G19 := Lib.hid hx; have K19 := Lib.hid hbk; clear hx hk hbk; skip)
            | (refine (markM_step P1 T1 hb1 HA1.out HB1.out _ (by omega) (by omega) _ _ _ _ _ _ _ X1_16.out w K16.out (by omega) (by omega)).mono ?_; rintro E w17 ⟨rfl, hx, hk, hbk⟩; have z17 := hk.1; have BA0_17 := Lib.hid (BA0_16.out.kept hk (by omega)); have ba0_c17 := BA0_17.out.c0; have ba0_d17 := BA0_17.out.c1; (try clear ba0_c16 ba0_d16); have BA1_17 := Lib.hid (BA1_16.out.kept hk (by omega)); have ba1_c17 := BA1_17.out.c0; have ba1_d17 := BA1_17.out.c1; (try clear ba1_c16 ba1_d16); have W17 := Lib.hid (W16.out.kept hk (by omega)); have BW17 := Lib.hid (BW16.out.kept hk (by omega)); have bwc17 := BW17.out.c0; have bwd17 := BW17.out.c1; (try clear bwc16 bwd16); have BX1_17 := Lib.hid (BX1_16.out.kept hk (by omega)); have bx1_c17 := BX1_17.out.c0; have bx1_d17 := BX1_17.out.c1; (try clear bx1_c16 bx1_d16); have G17 := Lib.hid (G16.out.kept hk (by omega)); have BG17 := Lib.hid (BG16.out.kept hk (by omega)); have bgc17 := BG17.out.c0; have bgd17 := BG17.out.c1; (try clear bgc16 bgd16); have K17 := Lib.hid hbk; clear hx hk hbk; skip)
            | (refine (markM_step P0 T0 hb0 HA0.out HB0.out 1 (by omega) (by omega) _ _ _ _ _ _ _ X0_15.out w K15.out (by omega) (by omega)).mono ?_; rintro E w16 ⟨rfl, hx, hk, hbk⟩; have z16 := hk.1; have BA0_16 := Lib.hid (BA0_15.out.kept hk (by omega)); have ba0_c16 := BA0_16.out.c0; have ba0_d16 := BA0_16.out.c1; (try clear ba0_c15 ba0_d15); have BA1_16 := Lib.hid (BA1_15.out.kept hk (by omega)); have ba1_c16 := BA1_16.out.c0; have ba1_d16 := BA1_16.out.c1; (try clear ba1_c15 ba1_d15); have W16 := Lib.hid (W15.out.kept hk (by omega)); have BW16 := Lib.hid (BW15.out.kept hk (by omega)); have bwc16 := BW16.out.c0; have bwd16 := BW16.out.c1; (try clear bwc15 bwd15); have BX0_16 := Lib.hid (BX0_15.out.kept hk (by omega)); have bx0_c16 := BX0_16.out.c0; have bx0_d16 := BX0_16.out.c1; (try clear bx0_c15 bx0_d15); have X1_16 := Lib.hid (X1_15.out.kept hk (by omega)); have BX1_16 := Lib.hid (BX1_15.out.kept hk (by omega)); have bx1_c16 := BX1_16.out.c0; have bx1_d16 := BX1_16.out.c1; (try clear bx1_c15 bx1_d15); have G16 := Lib.hid (G15.out.kept hk (by omega)); have BG16 := Lib.hid (BG15.out.kept hk (by omega)); have bgc16 := BG16.out.c0; have bgd16 := BG16.out.c1; (try clear bgc15 bgd15); have K16 := Lib.hid hbk; clear hx hk hbk; skip))
        | (go_at_call 13; refine (eqr_step P' _ _ R SG9.out SW4.out hp1 HR1.out HR2.out _ _ _ _ _ _ _ _ _ (OwnM.readn SG9.out G17.out) (RefM.readn SW4.out W17.out)).mono ?_; rintro E w18 ⟨rfl, hb⟩; have z18 := hb.size; have BA0_18 := Lib.hid (BA0_17.out.below hb); have ba0_c18 := BA0_18.out.c0; have ba0_d18 := BA0_18.out.c1; (try clear ba0_c17 ba0_d17); have BA1_18 := Lib.hid (BA1_17.out.below hb); have ba1_c18 := BA1_18.out.c0; have ba1_d18 := BA1_18.out.c1; (try clear ba1_c17 ba1_d17); have W18 := Lib.hid (W17.out.below hb); have BW18 := Lib.hid (BW17.out.below hb); have bwc18 := BW18.out.c0; have bwd18 := BW18.out.c1; (try clear bwc17 bwd17); have G18 := Lib.hid (G17.out.below hb); have BG18 := Lib.hid (BG17.out.below hb); have bgc18 := BG18.out.c0; have bgd18 := BG18.out.c1; (try clear bgc17 bgd17); have K18 := Lib.hid (below_then K17.out hb K17.out.size); clear hb; skip)
        | (go_at_call 15; refine (heldM_step P' R hp1 HR1.out HR2.out 1 (by omega) (by omega) _ _ _ _ _ _ _ G19.out).mono ?_; rintro E w20 ⟨rfl, hb⟩; have z20 := hb.size; have BA0_20 := Lib.hid (BA0_19.out.below hb); have ba0_c20 := BA0_20.out.c0; have ba0_d20 := BA0_20.out.c1; (try clear ba0_c19 ba0_d19); have BA1_20 := Lib.hid (BA1_19.out.below hb); have ba1_c20 := BA1_20.out.c0; have ba1_d20 := BA1_20.out.c1; (try clear ba1_c19 ba1_d19); have W20 := Lib.hid (W19.out.below hb); have BW20 := Lib.hid (BW19.out.below hb); have bwc20 := BW20.out.c0; have bwd20 := BW20.out.c1; (try clear bwc19 bwd19); have G20 := Lib.hid (G19.out.below hb); have BG20 := Lib.hid (BG19.out.below hb); have bgc20 := BG20.out.c0; have bgd20 := BG20.out.c1; (try clear bgc19 bgd19); have K20 := Lib.hid (below_then K19.out hb K19.out.size); clear hb; skip)
        | fail)
      have BA0_d := Lib.hid (show BoxAt w20.drew (w.heap.size) 25 (.slice A0 L0.length c0) (.slice B0 T0.length e0) from BA0_20.out.below (Below.drew (Below.refl _ _)))
      have BA1_d := Lib.hid (show BoxAt w20.drew (w.heap.size + 1) 25 (.slice A1 L1.length c1) (.slice B1 T1.length e1) from BA1_20.out.below (Below.drew (Below.refl _ _)))
      have Wd := Lib.hid (show RefM w20.drew aW bW (.slice AW P'.length cW) (.slice BW R.length eW) PW R from W20.out.below (Below.drew (Below.refl _ _)))
      have BWd := Lib.hid (show BoxAt w20.drew gW 29 (.slice AW P'.length cW) (.slice BW R.length eW) from BW20.out.below (Below.drew (Below.refl _ _)))
      have Gd := Lib.hid (show OwnM w20.drew w8.heap.size w9.heap.size (.slice A9 P'.length c9) (.slice B9 R.length e9) (marksV 1 P'.length) (marksT (1 + 3 * (P'.length : Int)) R) from G20.out.below (Below.drew (Below.refl _ _)))
      have BGd := Lib.hid (show BoxAt w20.drew w9.heap.size 29 (.slice A9 P'.length c9) (.slice B9 R.length e9) from BG20.out.below (Below.drew (Below.refl _ _)))
      have Kd_ := Lib.hid (Below.drew K20.out); have hzd : w20.heap.size ≤ w20.drew.heap.size := Nat.le_refl _
      refine start_ (n := 11) (S := fun w' => w'.cell? ⟨w.heap.size, 0, none⟩ = some (.slice A0 L0.length c0) ∧ w'.cell? ⟨w.heap.size, 1, none⟩ = some (.slice B0 T0.length e0) ∧ w'.cell? ⟨w.heap.size + 1, 0, none⟩ = some (.slice A1 L1.length c1) ∧ w'.cell? ⟨w.heap.size + 1, 1, none⟩ = some (.slice B1 T1.length e1)) (ds := []) #[false, false, false, false, false, false, false, false, false, false, false] (by kernel_rfl) rfl rfl ⟨BA0_d.out.c0, BA0_d.out.c1, BA1_d.out.c0, BA1_d.out.c1⟩ (fun hHeld => ?_)
      generalize w20.drew = wd20 at BA0_d BA1_d Wd BWd Gd BGd Kd_ hzd hHeld ⊢
      clear BA0_20 BA1_20 W20 BW20 G20 BG20 K20 ba0_c20 ba0_d20 ba1_c20 ba1_d20 bwc20 bwd20 bgc20 bgd20
      refine take_ (i := 0) (N := (some 95)) (v := ?_) (a' := ?_) #[true, false, false, false, false, false, false, false, false, false, false] rfl rfl (by kernel_rfl) (fun _ _ _ h => h) (Or.inl ⟨by rfl, ?_⟩) hHeld ?_ ?_
      rotate_left
      · intro w' hSw
        (try dsimp only at hSw)
        go_simp
        with_reducible rfl
      rotate_left
      · simp only [Act.put, List.setIfInBounds_toArray, List.set_cons_zero, List.set_cons_succ, i64_w, i32_w]; rfl
      refine take_ (i := 2) (N := (some 97)) (v := ?_) (a' := ?_) #[true, false, true, false, false, false, false, false, false, false, false] rfl rfl (by kernel_rfl) (fun _ _ _ h => h) (Or.inl ⟨by rfl, ?_⟩) hHeld ?_ ?_
      rotate_left
      · intro w' hSw
        (try dsimp only at hSw)
        go_simp
        with_reducible rfl
      rotate_left
      · simp only [Act.put, List.setIfInBounds_toArray, List.set_cons_zero, List.set_cons_succ, i64_w, i32_w]; rfl
      refine join_ (σ := Option Addr × Nat × Option Addr × Nat × Option Addr × Nat × Option Addr × Nat × List S40 × Option Addr × Nat × Option Addr × Nat × Nat × Nat × Nat) 2 #[true, true, true, true, true, true, true, true, true, false, false] (fun s_ => [(96, .agg #[.slice s_.1 P0.length s_.2.1, .slice s_.2.2.1 T0.length s_.2.2.2.1]), (98, .agg #[.slice s_.2.2.2.2.1 P1.length s_.2.2.2.2.2.1, .slice s_.2.2.2.2.2.2.1 T1.length s_.2.2.2.2.2.2.2.1]), (99, .tuple #[.agg #[.slice s_.2.2.2.2.2.2.2.2.2.1 P'.length s_.2.2.2.2.2.2.2.2.2.2.1, .slice s_.2.2.2.2.2.2.2.2.2.2.2.1 R.length s_.2.2.2.2.2.2.2.2.2.2.2.2.1], .bool b]), (94, .tuple #[.agg #[.slice s_.2.2.2.2.2.2.2.2.2.1 P'.length s_.2.2.2.2.2.2.2.2.2.2.1, .slice s_.2.2.2.2.2.2.2.2.2.2.2.1 R.length s_.2.2.2.2.2.2.2.2.2.2.2.2.1], .bool b]), (100, .agg #[.slice s_.2.2.2.2.2.2.2.2.2.1 P'.length s_.2.2.2.2.2.2.2.2.2.2.1, .slice s_.2.2.2.2.2.2.2.2.2.2.2.1 R.length s_.2.2.2.2.2.2.2.2.2.2.2.2.1]), (101, .bool b), (15, .pointer (some ⟨s_.2.2.2.2.2.2.2.2.2.2.2.2.2.2.2, 0, none⟩))]) (fun s_ w' => (BoxAt w' (w.heap.size) 25 (.slice A0 L0.length c0) (.slice B0 T0.length e0)) ∧ (BoxAt w' (w.heap.size + 1) 25 (.slice A1 L1.length c1) (.slice B1 T1.length e1)) ∧ (RefM w' aW bW (.slice AW P'.length cW) (.slice BW R.length eW) PW R) ∧ (BoxAt w' gW 29 (.slice AW P'.length cW) (.slice BW R.length eW)) ∧ (OwnM w' w8.heap.size w9.heap.size (.slice A9 P'.length c9) (.slice B9 R.length e9) (marksV 1 P'.length) (marksT (1 + 3 * (P'.length : Int)) R)) ∧ (BoxAt w' w9.heap.size 29 (.slice A9 P'.length c9) (.slice B9 R.length e9)) ∧ (Below w.heap.size w w') ∧ (w20.heap.size ≤ w'.heap.size) ∧ (ReadM w' s_.1 s_.2.1 P0 s_.2.2.1 s_.2.2.2.1 T0) ∧ (ReadM w' s_.2.2.2.2.1 s_.2.2.2.2.2.1 P1 s_.2.2.2.2.2.2.1 s_.2.2.2.2.2.2.2.1 T1) ∧ (simP s_.2.2.2.2.2.2.2.2.1 P') ∧ (OwnM w' s_.2.2.2.2.2.2.2.2.2.2.2.2.2.1 s_.2.2.2.2.2.2.2.2.2.2.2.2.2.2.1 (.slice s_.2.2.2.2.2.2.2.2.2.1 P'.length s_.2.2.2.2.2.2.2.2.2.2.1) (.slice s_.2.2.2.2.2.2.2.2.2.2.2.1 R.length s_.2.2.2.2.2.2.2.2.2.2.2.2.1) s_.2.2.2.2.2.2.2.2.1 R) ∧ (w20.heap.size ≤ s_.2.2.2.2.2.2.2.2.2.2.2.2.2.1) ∧ (s_.2.2.2.2.2.2.2.2.2.2.2.2.2.2.1 ≤ w'.heap.size) ∧ (BoxAt w' s_.2.2.2.2.2.2.2.2.2.2.2.2.2.2.2 29 (.slice none 0 0) (.slice none 0 0)) ∧ (w20.heap.size ≤ s_.2.2.2.2.2.2.2.2.2.2.2.2.2.2.2) ∧ (s_.2.2.2.2.2.2.2.2.2.2.2.2.2.2.2 < s_.2.2.2.2.2.2.2.2.2.2.2.2.2.1 ∨ s_.2.2.2.2.2.2.2.2.2.2.2.2.2.2.1 ≤ s_.2.2.2.2.2.2.2.2.2.2.2.2.2.2.2)) ?_ ?_
      rotate_left
      · intro hN_m0_m1_f_g
        refine join_ (σ := Option Addr × Nat × Option Addr × Nat × Option Addr × Nat × Option Addr × Nat × List S40 × Option Addr × Nat × Option Addr × Nat × Nat × Nat) 3 #[true, true, true, true, true, true, true, true, false, false, false] (fun s_ => [(96, .agg #[.slice s_.1 P0.length s_.2.1, .slice s_.2.2.1 T0.length s_.2.2.2.1]), (98, .agg #[.slice s_.2.2.2.2.1 P1.length s_.2.2.2.2.2.1, .slice s_.2.2.2.2.2.2.1 T1.length s_.2.2.2.2.2.2.2.1]), (99, .tuple #[.agg #[.slice s_.2.2.2.2.2.2.2.2.2.1 P'.length s_.2.2.2.2.2.2.2.2.2.2.1, .slice s_.2.2.2.2.2.2.2.2.2.2.2.1 R.length s_.2.2.2.2.2.2.2.2.2.2.2.2.1], .bool b]), (94, .tuple #[.agg #[.slice s_.2.2.2.2.2.2.2.2.2.1 P'.length s_.2.2.2.2.2.2.2.2.2.2.1, .slice s_.2.2.2.2.2.2.2.2.2.2.2.1 R.length s_.2.2.2.2.2.2.2.2.2.2.2.2.1], .bool b]), (100, .agg #[.slice s_.2.2.2.2.2.2.2.2.2.1 P'.length s_.2.2.2.2.2.2.2.2.2.2.1, .slice s_.2.2.2.2.2.2.2.2.2.2.2.1 R.length s_.2.2.2.2.2.2.2.2.2.2.2.2.1]), (101, .bool b)]) (fun s_ w' => (BoxAt w' (w.heap.size) 25 (.slice A0 L0.length c0) (.slice B0 T0.length e0)) ∧ (BoxAt w' (w.heap.size + 1) 25 (.slice A1 L1.length c1) (.slice B1 T1.length e1)) ∧ (RefM w' aW bW (.slice AW P'.length cW) (.slice BW R.length eW) PW R) ∧ (BoxAt w' gW 29 (.slice AW P'.length cW) (.slice BW R.length eW)) ∧ (OwnM w' w8.heap.size w9.heap.size (.slice A9 P'.length c9) (.slice B9 R.length e9) (marksV 1 P'.length) (marksT (1 + 3 * (P'.length : Int)) R)) ∧ (BoxAt w' w9.heap.size 29 (.slice A9 P'.length c9) (.slice B9 R.length e9)) ∧ (Below w.heap.size w w') ∧ (w20.heap.size ≤ w'.heap.size) ∧ (ReadM w' s_.1 s_.2.1 P0 s_.2.2.1 s_.2.2.2.1 T0) ∧ (ReadM w' s_.2.2.2.2.1 s_.2.2.2.2.2.1 P1 s_.2.2.2.2.2.2.1 s_.2.2.2.2.2.2.2.1 T1) ∧ (simP s_.2.2.2.2.2.2.2.2.1 P') ∧ (OwnM w' s_.2.2.2.2.2.2.2.2.2.2.2.2.2.1 s_.2.2.2.2.2.2.2.2.2.2.2.2.2.2 (.slice s_.2.2.2.2.2.2.2.2.2.1 P'.length s_.2.2.2.2.2.2.2.2.2.2.1) (.slice s_.2.2.2.2.2.2.2.2.2.2.2.1 R.length s_.2.2.2.2.2.2.2.2.2.2.2.2.1) s_.2.2.2.2.2.2.2.2.1 R) ∧ (w20.heap.size ≤ s_.2.2.2.2.2.2.2.2.2.2.2.2.2.1) ∧ (s_.2.2.2.2.2.2.2.2.2.2.2.2.2.2 ≤ w'.heap.size)) ?_ ?_
        · skip
          rintro ⟨Am0, cm0, Bm0, em0, Am1, cm1, Bm1, em1, PH, AH, cH, BH, eH, aH, bH⟩ wn ⟨f_BA0_, f_BA1_, f_W, f_BW, f_G, f_BG, f_Kd_, f_hzd, f_d0, f_d1, f_sx, f_rx, yaH, f_bx_⟩
          replace f_BA0_ : BoxAt wn (w.heap.size) 25 (.slice A0 L0.length c0) (.slice B0 T0.length e0) := f_BA0_
          replace f_BA1_ : BoxAt wn (w.heap.size + 1) 25 (.slice A1 L1.length c1) (.slice B1 T1.length e1) := f_BA1_
          replace f_W : RefM wn aW bW (.slice AW P'.length cW) (.slice BW R.length eW) PW R := f_W
          replace f_BW : BoxAt wn gW 29 (.slice AW P'.length cW) (.slice BW R.length eW) := f_BW
          replace f_G : OwnM wn w8.heap.size w9.heap.size (.slice A9 P'.length c9) (.slice B9 R.length e9) (marksV 1 P'.length) (marksT (1 + 3 * (P'.length : Int)) R) := f_G
          replace f_BG : BoxAt wn w9.heap.size 29 (.slice A9 P'.length c9) (.slice B9 R.length e9) := f_BG
          replace f_Kd_ : Below w.heap.size w wn := f_Kd_
          replace f_hzd : w20.heap.size ≤ wn.heap.size := f_hzd
          replace f_d0 : ReadM wn Am0 cm0 P0 Bm0 em0 T0 := f_d0
          replace f_d1 : ReadM wn Am1 cm1 P1 Bm1 em1 T1 := f_d1
          replace f_sx : simP PH P' := f_sx
          replace f_rx : OwnM wn aH bH (.slice AH P'.length cH) (.slice BH R.length eH) PH R := f_rx
          replace yaH : w20.heap.size ≤ aH := yaH
          replace f_bx_ : bH ≤ wn.heap.size := f_bx_
          refine norm_ (a' := ?_) ?_ ?_
          rotate_left
          · simp only [putAll, Act.put, List.setIfInBounds_toArray, List.set_cons_zero, List.set_cons_succ]; rfl
          refine one_ (i := 8) (N := (some 15)) #[true, true, true, true, true, true, true, true, true, false, false] rfl rfl (by kernel_rfl) (by decide) (fun K hK => ?_)
          refine box_step ?hg (N := 15) ?hd (cs := #[.slice none 0 0, .slice none 0 0]) (t := 29) ?hr ?_; (case hd => rfl); (case hg => rfl); (case hr => first | (go_simp; done) | (go_simp; rfl))
          intro gH hg wz m_gx hb
          have m_gx_ : w20.heap.size ≤ gH := by rw [hg]; exact f_hzd
          have hgnew := hg
          have m_BA0_ := f_BA0_.below hb
          have m_BA1_ := f_BA1_.below hb
          have m_W := f_W.below hb
          have m_BW := f_BW.below hb
          have m_G := f_G.below hb
          have m_BG := f_BG.below hb
          have m_Kd_ := below_step f_Kd_ hb
          have m_hzd := Nat.le_trans f_hzd hb.size
          have m_d0 := f_d0.below hb
          have m_d1 := f_d1.below hb
          have m_sx := f_sx
          have m_rx := f_rx.below hb
          have m_ax_ := yaH
          have m_bx_ := Nat.le_trans f_bx_ hb.size
          refine hK.out _ _ ⟨m_BA0_.c0, m_BA0_.c1, m_BA1_.c0, m_BA1_.c1⟩ (fun hHeld => ?_)
          clear hK K
          refine norm_ (a' := ?_) ?_ ?_
          rotate_left
          · show Act.put _ (some 15) _ = _
            simp only [Act.put, List.setIfInBounds_toArray, List.set_cons_zero, List.set_cons_succ, i64_w, i32_w]
            rfl
          have m_fg := (Or.inr (by rw [hgnew]; exact f_bx_) : gH < aH ∨ bH ≤ gH)
          exact norm_ (by simp only [putAll, Act.put, List.setIfInBounds_toArray, List.set_cons_zero, List.set_cons_succ]) (hN_m0_m1_f_g (Am0, cm0, Bm0, em0, Am1, cm1, Bm1, em1, PH, AH, cH, BH, eH, aH, bH, gH) _ ⟨m_BA0_, m_BA1_, m_W, m_BW, m_G, m_BG, m_Kd_, m_hzd, m_d0, m_d1, m_sx, m_rx, m_ax_, m_bx_, m_gx, m_gx_, m_fg⟩)
        intro hN_m0_m1_f
        refine join_ (σ := Option Addr × Nat × Option Addr × Nat × Option Addr × Nat × Option Addr × Nat × Nat) 6 #[true, true, true, true, false, false, false, false, true, false, false] (fun s_ => [(96, .agg #[.slice s_.1 P0.length s_.2.1, .slice s_.2.2.1 T0.length s_.2.2.2.1]), (98, .agg #[.slice s_.2.2.2.2.1 P1.length s_.2.2.2.2.2.1, .slice s_.2.2.2.2.2.2.1 T1.length s_.2.2.2.2.2.2.2.1]), (15, .pointer (some ⟨s_.2.2.2.2.2.2.2.2, 0, none⟩))]) (fun s_ w' => (BoxAt w' (w.heap.size) 25 (.slice A0 L0.length c0) (.slice B0 T0.length e0)) ∧ (BoxAt w' (w.heap.size + 1) 25 (.slice A1 L1.length c1) (.slice B1 T1.length e1)) ∧ (RefM w' aW bW (.slice AW P'.length cW) (.slice BW R.length eW) PW R) ∧ (BoxAt w' gW 29 (.slice AW P'.length cW) (.slice BW R.length eW)) ∧ (OwnM w' w8.heap.size w9.heap.size (.slice A9 P'.length c9) (.slice B9 R.length e9) (marksV 1 P'.length) (marksT (1 + 3 * (P'.length : Int)) R)) ∧ (BoxAt w' w9.heap.size 29 (.slice A9 P'.length c9) (.slice B9 R.length e9)) ∧ (Below w.heap.size w w') ∧ (w20.heap.size ≤ w'.heap.size) ∧ (ReadM w' s_.1 s_.2.1 P0 s_.2.2.1 s_.2.2.2.1 T0) ∧ (ReadM w' s_.2.2.2.2.1 s_.2.2.2.2.2.1 P1 s_.2.2.2.2.2.2.1 s_.2.2.2.2.2.2.2.1 T1) ∧ (BoxAt w' s_.2.2.2.2.2.2.2.2 29 (.slice none 0 0) (.slice none 0 0)) ∧ (w20.heap.size ≤ s_.2.2.2.2.2.2.2.2)) ?_ ?_
        · skip
          rintro ⟨Am0, cm0, Bm0, em0, Am1, cm1, Bm1, em1, gH⟩ wn ⟨f_BA0_, f_BA1_, f_W, f_BW, f_G, f_BG, f_Kd_, f_hzd, f_d0, f_d1, f_gx, ygH⟩
          replace f_BA0_ : BoxAt wn (w.heap.size) 25 (.slice A0 L0.length c0) (.slice B0 T0.length e0) := f_BA0_
          replace f_BA1_ : BoxAt wn (w.heap.size + 1) 25 (.slice A1 L1.length c1) (.slice B1 T1.length e1) := f_BA1_
          replace f_W : RefM wn aW bW (.slice AW P'.length cW) (.slice BW R.length eW) PW R := f_W
          replace f_BW : BoxAt wn gW 29 (.slice AW P'.length cW) (.slice BW R.length eW) := f_BW
          replace f_G : OwnM wn w8.heap.size w9.heap.size (.slice A9 P'.length c9) (.slice B9 R.length e9) (marksV 1 P'.length) (marksT (1 + 3 * (P'.length : Int)) R) := f_G
          replace f_BG : BoxAt wn w9.heap.size 29 (.slice A9 P'.length c9) (.slice B9 R.length e9) := f_BG
          replace f_Kd_ : Below w.heap.size w wn := f_Kd_
          replace f_hzd : w20.heap.size ≤ wn.heap.size := f_hzd
          replace f_d0 : ReadM wn Am0 cm0 P0 Bm0 em0 T0 := f_d0
          replace f_d1 : ReadM wn Am1 cm1 P1 Bm1 em1 T1 := f_d1
          replace f_gx : BoxAt wn gH 29 (.slice none 0 0) (.slice none 0 0) := f_gx
          replace ygH : w20.heap.size ≤ gH := ygH
          refine norm_ (a' := ?_) ?_ ?_
          rotate_left
          · simp only [putAll, Act.put, List.setIfInBounds_toArray, List.set_cons_zero, List.set_cons_succ]; rfl
          refine one_ (i := 4) (N := (some 99)) #[true, true, true, true, true, false, false, false, true, false, false] rfl rfl (by kernel_rfl) (by decide) (fun K hK => ?_)
          refine goes_ Try.func22 (by kernel_rfl) rfl #[.agg #[.slice Am0 P0.length cm0, .slice Bm0 T0.length em0], .agg #[.slice Am1 P1.length cm1, .slice Bm1 T1.length em1]] (by rfl) rfl rfl (by (try simp only [List.map_toArray, List.map_cons, List.map_nil]); first | done | rfl) ?_
          refine (H2.out _ _ _ _ _ _ _ _ _ f_d0 f_d1).mono ?_
          rintro E wz ⟨PH, AH, cH, BH, eH, m_sx, rfl, m_rx, hb⟩
          refine ⟨_, rfl, ?_⟩
          obtain ⟨aH, hax⟩ : ∃ a, a = wn.heap.size := ⟨_, rfl⟩
          obtain ⟨bH, hbx⟩ : ∃ b, b = wz.heap.size := ⟨_, rfl⟩
          rw [← hax, ← hbx] at m_rx
          have m_ax_ : w20.heap.size ≤ aH := by rw [hax]; exact f_hzd
          have m_bx_ : bH ≤ wz.heap.size := by rw [hbx]; exact Nat.le_refl _
          have m_BA0_ := f_BA0_.below hb
          have m_BA1_ := f_BA1_.below hb
          have m_W := f_W.below hb
          have m_BW := f_BW.below hb
          have m_G := f_G.below hb
          have m_BG := f_BG.below hb
          have m_Kd_ := below_step f_Kd_ hb
          have m_hzd := Nat.le_trans f_hzd hb.size
          have m_d0 := f_d0.below hb
          have m_d1 := f_d1.below hb
          have m_gx := f_gx.below hb
          have m_gx_ := ygH
          refine hK.out _ _ ⟨m_BA0_.c0, m_BA0_.c1, m_BA1_.c0, m_BA1_.c1⟩ (fun hHeld => ?_)
          clear hK K
          refine norm_ (a' := ?_) ?_ ?_
          rotate_left
          · show Act.put _ (some 99) _ = _
            simp only [Act.put, List.setIfInBounds_toArray, List.set_cons_zero, List.set_cons_succ, i64_w, i32_w]
            rfl
          refine pure_ (i := 5) (N := (some 94)) (v := ?_) (a' := ?_) #[true, true, true, true, true, true, false, false, true, false, false] rfl rfl (by kernel_rfl) (fun _ _ _ h => h) (Or.inl ⟨by rfl, ?_⟩) ?_ ?_
          rotate_left
          · intro w'
            go_simp
            with_reducible rfl
          rotate_left
          · simp only [Act.put, List.setIfInBounds_toArray, List.set_cons_zero, List.set_cons_succ, i64_w, i32_w]; rfl
          refine pure_ (i := 6) (N := (some 100)) (v := ?_) (a' := ?_) #[true, true, true, true, true, true, true, false, true, false, false] rfl rfl (by kernel_rfl) (fun _ _ _ h => h) (Or.inl ⟨by rfl, ?_⟩) ?_ ?_
          rotate_left
          · intro w'
            go_simp
            with_reducible rfl
          rotate_left
          · simp only [Act.put, List.setIfInBounds_toArray, List.set_cons_zero, List.set_cons_succ, i64_w, i32_w]; rfl
          refine pure_ (i := 7) (N := (some 101)) (v := ?_) (a' := ?_) #[true, true, true, true, true, true, true, true, true, false, false] rfl rfl (by kernel_rfl) (fun _ _ _ h => h) (Or.inl ⟨by rfl, ?_⟩) ?_ ?_
          rotate_left
          · intro w'
            go_simp
            with_reducible rfl
          rotate_left
          · simp only [Act.put, List.setIfInBounds_toArray, List.set_cons_zero, List.set_cons_succ, i64_w, i32_w]; rfl
          have m_fg := (Or.inl (by rw [hax]; exact f_gx.lt) : gH < aH ∨ bH ≤ gH)
          exact norm_ (by simp only [putAll, Act.put, List.setIfInBounds_toArray, List.set_cons_zero, List.set_cons_succ]) (hN_m0_m1_f_g (Am0, cm0, Bm0, em0, Am1, cm1, Bm1, em1, PH, AH, cH, BH, eH, aH, bH, gH) _ ⟨m_BA0_, m_BA1_, m_W, m_BW, m_G, m_BG, m_Kd_, m_hzd, m_d0, m_d1, m_sx, m_rx, m_ax_, m_bx_, m_gx, m_gx_, m_fg⟩)
        intro hN_m0_m1_g
        refine join_ (σ := Option Addr × Nat × Option Addr × Nat × Option Addr × Nat × Option Addr × Nat) 7 #[true, true, true, true, false, false, false, false, false, false, false] (fun s_ => [(96, .agg #[.slice s_.1 P0.length s_.2.1, .slice s_.2.2.1 T0.length s_.2.2.2.1]), (98, .agg #[.slice s_.2.2.2.2.1 P1.length s_.2.2.2.2.2.1, .slice s_.2.2.2.2.2.2.1 T1.length s_.2.2.2.2.2.2.2])]) (fun s_ w' => (BoxAt w' (w.heap.size) 25 (.slice A0 L0.length c0) (.slice B0 T0.length e0)) ∧ (BoxAt w' (w.heap.size + 1) 25 (.slice A1 L1.length c1) (.slice B1 T1.length e1)) ∧ (RefM w' aW bW (.slice AW P'.length cW) (.slice BW R.length eW) PW R) ∧ (BoxAt w' gW 29 (.slice AW P'.length cW) (.slice BW R.length eW)) ∧ (OwnM w' w8.heap.size w9.heap.size (.slice A9 P'.length c9) (.slice B9 R.length e9) (marksV 1 P'.length) (marksT (1 + 3 * (P'.length : Int)) R)) ∧ (BoxAt w' w9.heap.size 29 (.slice A9 P'.length c9) (.slice B9 R.length e9)) ∧ (Below w.heap.size w w') ∧ (w20.heap.size ≤ w'.heap.size) ∧ (ReadM w' s_.1 s_.2.1 P0 s_.2.2.1 s_.2.2.2.1 T0) ∧ (ReadM w' s_.2.2.2.2.1 s_.2.2.2.2.2.1 P1 s_.2.2.2.2.2.2.1 s_.2.2.2.2.2.2.2 T1)) ?_ ?_
        · skip
          rintro ⟨Am0, cm0, Bm0, em0, Am1, cm1, Bm1, em1⟩ wn ⟨f_BA0_, f_BA1_, f_W, f_BW, f_G, f_BG, f_Kd_, f_hzd, f_d0, f_d1⟩
          replace f_BA0_ : BoxAt wn (w.heap.size) 25 (.slice A0 L0.length c0) (.slice B0 T0.length e0) := f_BA0_
          replace f_BA1_ : BoxAt wn (w.heap.size + 1) 25 (.slice A1 L1.length c1) (.slice B1 T1.length e1) := f_BA1_
          replace f_W : RefM wn aW bW (.slice AW P'.length cW) (.slice BW R.length eW) PW R := f_W
          replace f_BW : BoxAt wn gW 29 (.slice AW P'.length cW) (.slice BW R.length eW) := f_BW
          replace f_G : OwnM wn w8.heap.size w9.heap.size (.slice A9 P'.length c9) (.slice B9 R.length e9) (marksV 1 P'.length) (marksT (1 + 3 * (P'.length : Int)) R) := f_G
          replace f_BG : BoxAt wn w9.heap.size 29 (.slice A9 P'.length c9) (.slice B9 R.length e9) := f_BG
          replace f_Kd_ : Below w.heap.size w wn := f_Kd_
          replace f_hzd : w20.heap.size ≤ wn.heap.size := f_hzd
          replace f_d0 : ReadM wn Am0 cm0 P0 Bm0 em0 T0 := f_d0
          replace f_d1 : ReadM wn Am1 cm1 P1 Bm1 em1 T1 := f_d1
          refine norm_ (a' := ?_) ?_ ?_
          rotate_left
          · simp only [putAll, Act.put, List.setIfInBounds_toArray, List.set_cons_zero, List.set_cons_succ]; rfl
          refine two_ (i := 4) (j := 8) (Ni := (some 99)) (Nj := (some 15)) #[true, true, true, true, true, false, false, false, false, false, false] #[true, true, true, true, false, false, false, false, true, false, false] rfl rfl rfl rfl (by kernel_rfl) (by decide) (by decide) (fun K hK => ?_) (fun K hK => ?_) 
          · skip
            refine goes_ Try.func22 (by kernel_rfl) rfl #[.agg #[.slice Am0 P0.length cm0, .slice Bm0 T0.length em0], .agg #[.slice Am1 P1.length cm1, .slice Bm1 T1.length em1]] (by rfl) rfl rfl (by (try simp only [List.map_toArray, List.map_cons, List.map_nil]); first | done | rfl) ?_
            refine (H2.out _ _ _ _ _ _ _ _ _ f_d0 f_d1).mono ?_
            rintro E wz ⟨PH, AH, cH, BH, eH, m_sx, rfl, m_rx, hb⟩
            refine ⟨_, rfl, ?_⟩
            obtain ⟨aH, hax⟩ : ∃ a, a = wn.heap.size := ⟨_, rfl⟩
            obtain ⟨bH, hbx⟩ : ∃ b, b = wz.heap.size := ⟨_, rfl⟩
            rw [← hax, ← hbx] at m_rx
            have m_ax_ : w20.heap.size ≤ aH := by rw [hax]; exact f_hzd
            have m_bx_ : bH ≤ wz.heap.size := by rw [hbx]; exact Nat.le_refl _
            have m_BA0_ := f_BA0_.below hb
            have m_BA1_ := f_BA1_.below hb
            have m_W := f_W.below hb
            have m_BW := f_BW.below hb
            have m_G := f_G.below hb
            have m_BG := f_BG.below hb
            have m_Kd_ := below_step f_Kd_ hb
            have m_hzd := Nat.le_trans f_hzd hb.size
            have m_d0 := f_d0.below hb
            have m_d1 := f_d1.below hb
            refine hK.out _ _ ⟨m_BA0_.c0, m_BA0_.c1, m_BA1_.c0, m_BA1_.c1⟩ (fun hHeld => ?_)
            clear hK K
            refine norm_ (a' := ?_) ?_ ?_
            rotate_left
            · show Act.put _ (some 99) _ = _
              simp only [Act.put, List.setIfInBounds_toArray, List.set_cons_zero, List.set_cons_succ, i64_w, i32_w]
              rfl
            refine pure_ (i := 5) (N := (some 94)) (v := ?_) (a' := ?_) #[true, true, true, true, true, true, false, false, false, false, false] rfl rfl (by kernel_rfl) (fun _ _ _ h => h) (Or.inl ⟨by rfl, ?_⟩) ?_ ?_
            rotate_left
            · intro w'
              go_simp
              with_reducible rfl
            rotate_left
            · simp only [Act.put, List.setIfInBounds_toArray, List.set_cons_zero, List.set_cons_succ, i64_w, i32_w]; rfl
            refine pure_ (i := 6) (N := (some 100)) (v := ?_) (a' := ?_) #[true, true, true, true, true, true, true, false, false, false, false] rfl rfl (by kernel_rfl) (fun _ _ _ h => h) (Or.inl ⟨by rfl, ?_⟩) ?_ ?_
            rotate_left
            · intro w'
              go_simp
              with_reducible rfl
            rotate_left
            · simp only [Act.put, List.setIfInBounds_toArray, List.set_cons_zero, List.set_cons_succ, i64_w, i32_w]; rfl
            refine pure_ (i := 7) (N := (some 101)) (v := ?_) (a' := ?_) #[true, true, true, true, true, true, true, true, false, false, false] rfl rfl (by kernel_rfl) (fun _ _ _ h => h) (Or.inl ⟨by rfl, ?_⟩) ?_ ?_
            rotate_left
            · intro w'
              go_simp
              with_reducible rfl
            rotate_left
            · simp only [Act.put, List.setIfInBounds_toArray, List.set_cons_zero, List.set_cons_succ, i64_w, i32_w]; rfl
            exact norm_ (by simp only [putAll, Act.put, List.setIfInBounds_toArray, List.set_cons_zero, List.set_cons_succ]) (hN_m0_m1_f (Am0, cm0, Bm0, em0, Am1, cm1, Bm1, em1, PH, AH, cH, BH, eH, aH, bH) _ ⟨m_BA0_, m_BA1_, m_W, m_BW, m_G, m_BG, m_Kd_, m_hzd, m_d0, m_d1, m_sx, m_rx, m_ax_, m_bx_⟩)
          · skip
            refine box_step ?hg (N := 15) ?hd (cs := #[.slice none 0 0, .slice none 0 0]) (t := 29) ?hr ?_; (case hd => rfl); (case hg => rfl); (case hr => first | (go_simp; done) | (go_simp; rfl))
            intro gH hg wz m_gx hb
            have m_gx_ : w20.heap.size ≤ gH := by rw [hg]; exact f_hzd
            have hgnew := hg
            have m_BA0_ := f_BA0_.below hb
            have m_BA1_ := f_BA1_.below hb
            have m_W := f_W.below hb
            have m_BW := f_BW.below hb
            have m_G := f_G.below hb
            have m_BG := f_BG.below hb
            have m_Kd_ := below_step f_Kd_ hb
            have m_hzd := Nat.le_trans f_hzd hb.size
            have m_d0 := f_d0.below hb
            have m_d1 := f_d1.below hb
            refine hK.out _ _ ⟨m_BA0_.c0, m_BA0_.c1, m_BA1_.c0, m_BA1_.c1⟩ (fun hHeld => ?_)
            clear hK K
            refine norm_ (a' := ?_) ?_ ?_
            rotate_left
            · show Act.put _ (some 15) _ = _
              simp only [Act.put, List.setIfInBounds_toArray, List.set_cons_zero, List.set_cons_succ, i64_w, i32_w]
              rfl
            exact norm_ (by simp only [putAll, Act.put, List.setIfInBounds_toArray, List.set_cons_zero, List.set_cons_succ]) (hN_m0_m1_g (Am0, cm0, Bm0, em0, Am1, cm1, Bm1, em1, gH) _ ⟨m_BA0_, m_BA1_, m_W, m_BW, m_G, m_BG, m_Kd_, m_hzd, m_d0, m_d1, m_gx, m_gx_⟩)
        intro hN_m0_m1
        refine join_ (σ := Option Addr × Nat × Option Addr × Nat × Nat) 7 #[true, true, true, false, false, false, false, false, true, false, false] (fun s_ => [(96, .agg #[.slice s_.1 P0.length s_.2.1, .slice s_.2.2.1 T0.length s_.2.2.2.1]), (15, .pointer (some ⟨s_.2.2.2.2, 0, none⟩))]) (fun s_ w' => (BoxAt w' (w.heap.size) 25 (.slice A0 L0.length c0) (.slice B0 T0.length e0)) ∧ (BoxAt w' (w.heap.size + 1) 25 (.slice A1 L1.length c1) (.slice B1 T1.length e1)) ∧ (RefM w' aW bW (.slice AW P'.length cW) (.slice BW R.length eW) PW R) ∧ (BoxAt w' gW 29 (.slice AW P'.length cW) (.slice BW R.length eW)) ∧ (OwnM w' w8.heap.size w9.heap.size (.slice A9 P'.length c9) (.slice B9 R.length e9) (marksV 1 P'.length) (marksT (1 + 3 * (P'.length : Int)) R)) ∧ (BoxAt w' w9.heap.size 29 (.slice A9 P'.length c9) (.slice B9 R.length e9)) ∧ (Below w.heap.size w w') ∧ (w20.heap.size ≤ w'.heap.size) ∧ (ReadM w' s_.1 s_.2.1 P0 s_.2.2.1 s_.2.2.2.1 T0) ∧ (BoxAt w' s_.2.2.2.2 29 (.slice none 0 0) (.slice none 0 0)) ∧ (w20.heap.size ≤ s_.2.2.2.2)) ?_ ?_
        · skip
          rintro ⟨Am0, cm0, Bm0, em0, gH⟩ wn ⟨f_BA0_, f_BA1_, f_W, f_BW, f_G, f_BG, f_Kd_, f_hzd, f_d0, f_gx, ygH⟩
          replace f_BA0_ : BoxAt wn (w.heap.size) 25 (.slice A0 L0.length c0) (.slice B0 T0.length e0) := f_BA0_
          replace f_BA1_ : BoxAt wn (w.heap.size + 1) 25 (.slice A1 L1.length c1) (.slice B1 T1.length e1) := f_BA1_
          replace f_W : RefM wn aW bW (.slice AW P'.length cW) (.slice BW R.length eW) PW R := f_W
          replace f_BW : BoxAt wn gW 29 (.slice AW P'.length cW) (.slice BW R.length eW) := f_BW
          replace f_G : OwnM wn w8.heap.size w9.heap.size (.slice A9 P'.length c9) (.slice B9 R.length e9) (marksV 1 P'.length) (marksT (1 + 3 * (P'.length : Int)) R) := f_G
          replace f_BG : BoxAt wn w9.heap.size 29 (.slice A9 P'.length c9) (.slice B9 R.length e9) := f_BG
          replace f_Kd_ : Below w.heap.size w wn := f_Kd_
          replace f_hzd : w20.heap.size ≤ wn.heap.size := f_hzd
          replace f_d0 : ReadM wn Am0 cm0 P0 Bm0 em0 T0 := f_d0
          replace f_gx : BoxAt wn gH 29 (.slice none 0 0) (.slice none 0 0) := f_gx
          replace ygH : w20.heap.size ≤ gH := ygH
          refine norm_ (a' := ?_) ?_ ?_
          rotate_left
          · simp only [putAll, Act.put, List.setIfInBounds_toArray, List.set_cons_zero, List.set_cons_succ]; rfl
          refine one_ (i := 3) (N := (some 98)) #[true, true, true, true, false, false, false, false, true, false, false] rfl rfl (by kernel_rfl) (by decide) (fun K hK => ?_)
          refine goes_ Try.func11 (by kernel_rfl) rfl #[.agg #[.slice A1 L1.length c1, .slice B1 T1.length e1]] (by rfl) rfl rfl (by (try simp only [List.map_toArray, List.map_cons, List.map_nil]); first | done | rfl) ?_
          refine (HTO1.out _ f_Kd_).mono ?_
          rintro E wz ⟨Am1, cm1, Bm1, em1, rfl, hx, hb, hk⟩
          refine ⟨_, rfl, ?_⟩
          have m_d1 := hx.read
          clear hx hk
          have m_BA0_ := f_BA0_.below hb
          have m_BA1_ := f_BA1_.below hb
          have m_W := f_W.below hb
          have m_BW := f_BW.below hb
          have m_G := f_G.below hb
          have m_BG := f_BG.below hb
          have m_Kd_ := below_step f_Kd_ hb
          have m_hzd := Nat.le_trans f_hzd hb.size
          have m_d0 := f_d0.below hb
          have m_gx := f_gx.below hb
          have m_gx_ := ygH
          refine hK.out _ _ ⟨m_BA0_.c0, m_BA0_.c1, m_BA1_.c0, m_BA1_.c1⟩ (fun hHeld => ?_)
          clear hK K
          refine norm_ (a' := ?_) ?_ ?_
          rotate_left
          · show Act.put _ (some 98) _ = _
            simp only [Act.put, List.setIfInBounds_toArray, List.set_cons_zero, List.set_cons_succ, i64_w, i32_w]
            rfl
          exact norm_ (by simp only [putAll, Act.put, List.setIfInBounds_toArray, List.set_cons_zero, List.set_cons_succ]) (hN_m0_m1_g (Am0, cm0, Bm0, em0, Am1, cm1, Bm1, em1, gH) _ ⟨m_BA0_, m_BA1_, m_W, m_BW, m_G, m_BG, m_Kd_, m_hzd, m_d0, m_d1, m_gx, m_gx_⟩)
        intro hN_m0_g
        refine join_ (σ := Option Addr × Nat × Option Addr × Nat) 8 #[true, true, true, false, false, false, false, false, false, false, false] (fun s_ => [(96, .agg #[.slice s_.1 P0.length s_.2.1, .slice s_.2.2.1 T0.length s_.2.2.2])]) (fun s_ w' => (BoxAt w' (w.heap.size) 25 (.slice A0 L0.length c0) (.slice B0 T0.length e0)) ∧ (BoxAt w' (w.heap.size + 1) 25 (.slice A1 L1.length c1) (.slice B1 T1.length e1)) ∧ (RefM w' aW bW (.slice AW P'.length cW) (.slice BW R.length eW) PW R) ∧ (BoxAt w' gW 29 (.slice AW P'.length cW) (.slice BW R.length eW)) ∧ (OwnM w' w8.heap.size w9.heap.size (.slice A9 P'.length c9) (.slice B9 R.length e9) (marksV 1 P'.length) (marksT (1 + 3 * (P'.length : Int)) R)) ∧ (BoxAt w' w9.heap.size 29 (.slice A9 P'.length c9) (.slice B9 R.length e9)) ∧ (Below w.heap.size w w') ∧ (w20.heap.size ≤ w'.heap.size) ∧ (ReadM w' s_.1 s_.2.1 P0 s_.2.2.1 s_.2.2.2 T0)) ?_ ?_
        · skip
          rintro ⟨Am0, cm0, Bm0, em0⟩ wn ⟨f_BA0_, f_BA1_, f_W, f_BW, f_G, f_BG, f_Kd_, f_hzd, f_d0⟩
          replace f_BA0_ : BoxAt wn (w.heap.size) 25 (.slice A0 L0.length c0) (.slice B0 T0.length e0) := f_BA0_
          replace f_BA1_ : BoxAt wn (w.heap.size + 1) 25 (.slice A1 L1.length c1) (.slice B1 T1.length e1) := f_BA1_
          replace f_W : RefM wn aW bW (.slice AW P'.length cW) (.slice BW R.length eW) PW R := f_W
          replace f_BW : BoxAt wn gW 29 (.slice AW P'.length cW) (.slice BW R.length eW) := f_BW
          replace f_G : OwnM wn w8.heap.size w9.heap.size (.slice A9 P'.length c9) (.slice B9 R.length e9) (marksV 1 P'.length) (marksT (1 + 3 * (P'.length : Int)) R) := f_G
          replace f_BG : BoxAt wn w9.heap.size 29 (.slice A9 P'.length c9) (.slice B9 R.length e9) := f_BG
          replace f_Kd_ : Below w.heap.size w wn := f_Kd_
          replace f_hzd : w20.heap.size ≤ wn.heap.size := f_hzd
          replace f_d0 : ReadM wn Am0 cm0 P0 Bm0 em0 T0 := f_d0
          refine norm_ (a' := ?_) ?_ ?_
          rotate_left
          · simp only [putAll, Act.put, List.setIfInBounds_toArray, List.set_cons_zero, List.set_cons_succ]; rfl
          refine two_ (i := 3) (j := 8) (Ni := (some 98)) (Nj := (some 15)) #[true, true, true, true, false, false, false, false, false, false, false] #[true, true, true, false, false, false, false, false, true, false, false] rfl rfl rfl rfl (by kernel_rfl) (by decide) (by decide) (fun K hK => ?_) (fun K hK => ?_) 
          · skip
            refine goes_ Try.func11 (by kernel_rfl) rfl #[.agg #[.slice A1 L1.length c1, .slice B1 T1.length e1]] (by rfl) rfl rfl (by (try simp only [List.map_toArray, List.map_cons, List.map_nil]); first | done | rfl) ?_
            refine (HTO1.out _ f_Kd_).mono ?_
            rintro E wz ⟨Am1, cm1, Bm1, em1, rfl, hx, hb, hk⟩
            refine ⟨_, rfl, ?_⟩
            have m_d1 := hx.read
            clear hx hk
            have m_BA0_ := f_BA0_.below hb
            have m_BA1_ := f_BA1_.below hb
            have m_W := f_W.below hb
            have m_BW := f_BW.below hb
            have m_G := f_G.below hb
            have m_BG := f_BG.below hb
            have m_Kd_ := below_step f_Kd_ hb
            have m_hzd := Nat.le_trans f_hzd hb.size
            have m_d0 := f_d0.below hb
            refine hK.out _ _ ⟨m_BA0_.c0, m_BA0_.c1, m_BA1_.c0, m_BA1_.c1⟩ (fun hHeld => ?_)
            clear hK K
            refine norm_ (a' := ?_) ?_ ?_
            rotate_left
            · show Act.put _ (some 98) _ = _
              simp only [Act.put, List.setIfInBounds_toArray, List.set_cons_zero, List.set_cons_succ, i64_w, i32_w]
              rfl
            exact norm_ (by simp only [putAll, Act.put, List.setIfInBounds_toArray, List.set_cons_zero, List.set_cons_succ]) (hN_m0_m1 (Am0, cm0, Bm0, em0, Am1, cm1, Bm1, em1) _ ⟨m_BA0_, m_BA1_, m_W, m_BW, m_G, m_BG, m_Kd_, m_hzd, m_d0, m_d1⟩)
          · skip
            refine box_step ?hg (N := 15) ?hd (cs := #[.slice none 0 0, .slice none 0 0]) (t := 29) ?hr ?_; (case hd => rfl); (case hg => rfl); (case hr => first | (go_simp; done) | (go_simp; rfl))
            intro gH hg wz m_gx hb
            have m_gx_ : w20.heap.size ≤ gH := by rw [hg]; exact f_hzd
            have hgnew := hg
            have m_BA0_ := f_BA0_.below hb
            have m_BA1_ := f_BA1_.below hb
            have m_W := f_W.below hb
            have m_BW := f_BW.below hb
            have m_G := f_G.below hb
            have m_BG := f_BG.below hb
            have m_Kd_ := below_step f_Kd_ hb
            have m_hzd := Nat.le_trans f_hzd hb.size
            have m_d0 := f_d0.below hb
            refine hK.out _ _ ⟨m_BA0_.c0, m_BA0_.c1, m_BA1_.c0, m_BA1_.c1⟩ (fun hHeld => ?_)
            clear hK K
            refine norm_ (a' := ?_) ?_ ?_
            rotate_left
            · show Act.put _ (some 15) _ = _
              simp only [Act.put, List.setIfInBounds_toArray, List.set_cons_zero, List.set_cons_succ, i64_w, i32_w]
              rfl
            exact norm_ (by simp only [putAll, Act.put, List.setIfInBounds_toArray, List.set_cons_zero, List.set_cons_succ]) (hN_m0_g (Am0, cm0, Bm0, em0, gH) _ ⟨m_BA0_, m_BA1_, m_W, m_BW, m_G, m_BG, m_Kd_, m_hzd, m_d0, m_gx, m_gx_⟩)
        intro hN_m0
        refine join_ (σ := Nat) 8 #[true, false, true, false, false, false, false, false, true, false, false] (fun s_ => [(15, .pointer (some ⟨s_, 0, none⟩))]) (fun s_ w' => (BoxAt w' (w.heap.size) 25 (.slice A0 L0.length c0) (.slice B0 T0.length e0)) ∧ (BoxAt w' (w.heap.size + 1) 25 (.slice A1 L1.length c1) (.slice B1 T1.length e1)) ∧ (RefM w' aW bW (.slice AW P'.length cW) (.slice BW R.length eW) PW R) ∧ (BoxAt w' gW 29 (.slice AW P'.length cW) (.slice BW R.length eW)) ∧ (OwnM w' w8.heap.size w9.heap.size (.slice A9 P'.length c9) (.slice B9 R.length e9) (marksV 1 P'.length) (marksT (1 + 3 * (P'.length : Int)) R)) ∧ (BoxAt w' w9.heap.size 29 (.slice A9 P'.length c9) (.slice B9 R.length e9)) ∧ (Below w.heap.size w w') ∧ (w20.heap.size ≤ w'.heap.size) ∧ (BoxAt w' s_ 29 (.slice none 0 0) (.slice none 0 0)) ∧ (w20.heap.size ≤ s_)) ?_ ?_
        · skip
          rintro gH wn ⟨f_BA0_, f_BA1_, f_W, f_BW, f_G, f_BG, f_Kd_, f_hzd, f_gx, ygH⟩
          replace f_BA0_ : BoxAt wn (w.heap.size) 25 (.slice A0 L0.length c0) (.slice B0 T0.length e0) := f_BA0_
          replace f_BA1_ : BoxAt wn (w.heap.size + 1) 25 (.slice A1 L1.length c1) (.slice B1 T1.length e1) := f_BA1_
          replace f_W : RefM wn aW bW (.slice AW P'.length cW) (.slice BW R.length eW) PW R := f_W
          replace f_BW : BoxAt wn gW 29 (.slice AW P'.length cW) (.slice BW R.length eW) := f_BW
          replace f_G : OwnM wn w8.heap.size w9.heap.size (.slice A9 P'.length c9) (.slice B9 R.length e9) (marksV 1 P'.length) (marksT (1 + 3 * (P'.length : Int)) R) := f_G
          replace f_BG : BoxAt wn w9.heap.size 29 (.slice A9 P'.length c9) (.slice B9 R.length e9) := f_BG
          replace f_Kd_ : Below w.heap.size w wn := f_Kd_
          replace f_hzd : w20.heap.size ≤ wn.heap.size := f_hzd
          replace f_gx : BoxAt wn gH 29 (.slice none 0 0) (.slice none 0 0) := f_gx
          replace ygH : w20.heap.size ≤ gH := ygH
          refine norm_ (a' := ?_) ?_ ?_
          rotate_left
          · simp only [putAll, Act.put, List.setIfInBounds_toArray, List.set_cons_zero, List.set_cons_succ]; rfl
          refine one_ (i := 1) (N := (some 96)) #[true, true, true, false, false, false, false, false, true, false, false] rfl rfl (by kernel_rfl) (by decide) (fun K hK => ?_)
          refine goes_ Try.func11 (by kernel_rfl) rfl #[.agg #[.slice A0 L0.length c0, .slice B0 T0.length e0]] (by rfl) rfl rfl (by (try simp only [List.map_toArray, List.map_cons, List.map_nil]); first | done | rfl) ?_
          refine (HTO0.out _ f_Kd_).mono ?_
          rintro E wz ⟨Am0, cm0, Bm0, em0, rfl, hx, hb, hk⟩
          refine ⟨_, rfl, ?_⟩
          have m_d0 := hx.read
          clear hx hk
          have m_BA0_ := f_BA0_.below hb
          have m_BA1_ := f_BA1_.below hb
          have m_W := f_W.below hb
          have m_BW := f_BW.below hb
          have m_G := f_G.below hb
          have m_BG := f_BG.below hb
          have m_Kd_ := below_step f_Kd_ hb
          have m_hzd := Nat.le_trans f_hzd hb.size
          have m_gx := f_gx.below hb
          have m_gx_ := ygH
          refine hK.out _ _ ⟨m_BA0_.c0, m_BA0_.c1, m_BA1_.c0, m_BA1_.c1⟩ (fun hHeld => ?_)
          clear hK K
          refine norm_ (a' := ?_) ?_ ?_
          rotate_left
          · show Act.put _ (some 96) _ = _
            simp only [Act.put, List.setIfInBounds_toArray, List.set_cons_zero, List.set_cons_succ, i64_w, i32_w]
            rfl
          exact norm_ (by simp only [putAll, Act.put, List.setIfInBounds_toArray, List.set_cons_zero, List.set_cons_succ]) (hN_m0_g (Am0, cm0, Bm0, em0, gH) _ ⟨m_BA0_, m_BA1_, m_W, m_BW, m_G, m_BG, m_Kd_, m_hzd, m_d0, m_gx, m_gx_⟩)
        intro hN_g
        refine two_ (i := 1) (j := 8) (Ni := (some 96)) (Nj := (some 15)) #[true, true, true, false, false, false, false, false, false, false, false] #[true, false, true, false, false, false, false, false, true, false, false] rfl rfl rfl rfl (by kernel_rfl) (by decide) (by decide) (fun K hK => ?_) (fun K hK => ?_) 
        · skip
          refine goes_ Try.func11 (by kernel_rfl) rfl #[.agg #[.slice A0 L0.length c0, .slice B0 T0.length e0]] (by rfl) rfl rfl (by (try simp only [List.map_toArray, List.map_cons, List.map_nil]); first | done | rfl) ?_
          refine (HTO0.out _ Kd_.out).mono ?_
          rintro E wz ⟨Am0, cm0, Bm0, em0, rfl, hx, hb, hk⟩
          refine ⟨_, rfl, ?_⟩
          have m_d0 := hx.read
          clear hx hk
          have m_BA0_ := BA0_d.out.below hb
          have m_BA1_ := BA1_d.out.below hb
          have m_W := Wd.out.below hb
          have m_BW := BWd.out.below hb
          have m_G := Gd.out.below hb
          have m_BG := BGd.out.below hb
          have m_Kd_ := below_step Kd_.out hb
          have m_hzd := Nat.le_trans hzd hb.size
          refine hK.out _ _ ⟨m_BA0_.c0, m_BA0_.c1, m_BA1_.c0, m_BA1_.c1⟩ (fun hHeld => ?_)
          clear hK K
          refine norm_ (a' := ?_) ?_ ?_
          rotate_left
          · show Act.put _ (some 96) _ = _
            simp only [Act.put, List.setIfInBounds_toArray, List.set_cons_zero, List.set_cons_succ, i64_w, i32_w]
            rfl
          exact norm_ (by simp only [putAll, Act.put, List.setIfInBounds_toArray, List.set_cons_zero, List.set_cons_succ]) (hN_m0 (Am0, cm0, Bm0, em0) _ ⟨m_BA0_, m_BA1_, m_W, m_BW, m_G, m_BG, m_Kd_, m_hzd, m_d0⟩)
        · skip
          refine box_step ?hg (N := 15) ?hd (cs := #[.slice none 0 0, .slice none 0 0]) (t := 29) ?hr ?_; (case hd => rfl); (case hg => rfl); (case hr => first | (go_simp; done) | (go_simp; rfl))
          intro gH hg wz m_gx hb
          have m_gx_ : w20.heap.size ≤ gH := by rw [hg]; exact hzd
          have hgnew := hg
          have m_BA0_ := BA0_d.out.below hb
          have m_BA1_ := BA1_d.out.below hb
          have m_W := Wd.out.below hb
          have m_BW := BWd.out.below hb
          have m_G := Gd.out.below hb
          have m_BG := BGd.out.below hb
          have m_Kd_ := below_step Kd_.out hb
          have m_hzd := Nat.le_trans hzd hb.size
          refine hK.out _ _ ⟨m_BA0_.c0, m_BA0_.c1, m_BA1_.c0, m_BA1_.c1⟩ (fun hHeld => ?_)
          clear hK K
          refine norm_ (a' := ?_) ?_ ?_
          rotate_left
          · show Act.put _ (some 15) _ = _
            simp only [Act.put, List.setIfInBounds_toArray, List.set_cons_zero, List.set_cons_succ, i64_w, i32_w]
            rfl
          exact norm_ (by simp only [putAll, Act.put, List.setIfInBounds_toArray, List.set_cons_zero, List.set_cons_succ]) (hN_g (gH) _ ⟨m_BA0_, m_BA1_, m_W, m_BW, m_G, m_BG, m_Kd_, m_hzd, m_gx, m_gx_⟩)
      rintro ⟨Am0, cm0, Bm0, em0, Am1, cm1, Bm1, em1, PH, AH, cH, BH, eH, aH, bH, gH⟩ w21 ⟨f_BA0_, f_BA1_, f_W, f_BW, f_G, f_BG, f_Kd_, f_hzd, f_d0, f_d1, f_sx, f_rx, yaH, f_bx_, f_gx, ygH, yfH⟩
      replace f_BA0_ : BoxAt w21 (w.heap.size) 25 (.slice A0 L0.length c0) (.slice B0 T0.length e0) := f_BA0_
      replace f_BA1_ : BoxAt w21 (w.heap.size + 1) 25 (.slice A1 L1.length c1) (.slice B1 T1.length e1) := f_BA1_
      replace f_W : RefM w21 aW bW (.slice AW P'.length cW) (.slice BW R.length eW) PW R := f_W
      replace f_BW : BoxAt w21 gW 29 (.slice AW P'.length cW) (.slice BW R.length eW) := f_BW
      replace f_G : OwnM w21 w8.heap.size w9.heap.size (.slice A9 P'.length c9) (.slice B9 R.length e9) (marksV 1 P'.length) (marksT (1 + 3 * (P'.length : Int)) R) := f_G
      replace f_BG : BoxAt w21 w9.heap.size 29 (.slice A9 P'.length c9) (.slice B9 R.length e9) := f_BG
      replace f_Kd_ : Below w.heap.size w w21 := f_Kd_
      replace f_hzd : w20.heap.size ≤ w21.heap.size := f_hzd
      replace f_d0 : ReadM w21 Am0 cm0 P0 Bm0 em0 T0 := f_d0
      replace f_d1 : ReadM w21 Am1 cm1 P1 Bm1 em1 T1 := f_d1
      replace f_sx : simP PH P' := f_sx
      replace f_rx : OwnM w21 aH bH (.slice AH P'.length cH) (.slice BH R.length eH) PH R := f_rx
      replace yaH : w20.heap.size ≤ aH := yaH
      replace f_bx_ : bH ≤ w21.heap.size := f_bx_
      replace f_gx : BoxAt w21 gH 29 (.slice none 0 0) (.slice none 0 0) := f_gx
      replace ygH : w20.heap.size ≤ gH := ygH
      replace yfH : gH < aH ∨ bH ≤ gH := yfH
      refine norm_ (a' := ?_) ?_ ?_
      rotate_left
      · simp only [putAll, Act.put, List.setIfInBounds_toArray, List.set_cons_zero, List.set_cons_succ]; rfl
      have hg0 := f_gx.c0; have hg1 := f_gx.c1; have hgz0 := blk_frozen f_gx 0; have hgz1 := blk_frozen f_gx 1; have hgl := f_gx.lt
      have hk := kept_box (w := w21) (g := gH) (.slice AH P'.length cH) (.slice BH R.length eH)
      have hkb := blk_put (blk_put f_gx 0 (.slice AH P'.length cH) rfl) 1 (.slice BH R.length eH) rfl
      have hkK := below_set (j := 1) (v := (.slice BH R.length eH)) (below_set (j := 0) (v := (.slice AH P'.length cH)) f_Kd_ (by omega : w.heap.size ≤ gH)) (by omega : w.heap.size ≤ gH)
      have hBA0_ : BoxAt ((w21.setCell ⟨gH, 0, none⟩ (.slice AH P'.length cH)).setCell ⟨gH, 1, none⟩ (.slice BH R.length eH)) (w.heap.size) 25 (.slice A0 L0.length c0) (.slice B0 T0.length e0) := f_BA0_.kept hk (by omega)
      have hBA1_ : BoxAt ((w21.setCell ⟨gH, 0, none⟩ (.slice AH P'.length cH)).setCell ⟨gH, 1, none⟩ (.slice BH R.length eH)) (w.heap.size + 1) 25 (.slice A1 L1.length c1) (.slice B1 T1.length e1) := f_BA1_.kept hk (by omega)
      have hW : RefM ((w21.setCell ⟨gH, 0, none⟩ (.slice AH P'.length cH)).setCell ⟨gH, 1, none⟩ (.slice BH R.length eH)) aW bW (.slice AW P'.length cW) (.slice BW R.length eW) PW R := f_W.kept hk (by omega)
      have hBW : BoxAt ((w21.setCell ⟨gH, 0, none⟩ (.slice AH P'.length cH)).setCell ⟨gH, 1, none⟩ (.slice BH R.length eH)) gW 29 (.slice AW P'.length cW) (.slice BW R.length eW) := f_BW.kept hk (by omega)
      have hG : OwnM ((w21.setCell ⟨gH, 0, none⟩ (.slice AH P'.length cH)).setCell ⟨gH, 1, none⟩ (.slice BH R.length eH)) w8.heap.size w9.heap.size (.slice A9 P'.length c9) (.slice B9 R.length e9) (marksV 1 P'.length) (marksT (1 + 3 * (P'.length : Int)) R) := f_G.kept hk (by omega)
      have hBG : BoxAt ((w21.setCell ⟨gH, 0, none⟩ (.slice AH P'.length cH)).setCell ⟨gH, 1, none⟩ (.slice BH R.length eH)) w9.heap.size 29 (.slice A9 P'.length c9) (.slice B9 R.length e9) := f_BG.kept hk (by omega)
      have hrx := f_rx.kept hk (by omega)
      refine one_ (i := 9) (N := none) #[true, true, true, true, true, true, true, true, true, true, false] rfl rfl (by kernel_rfl) (by decide) (fun K hK => ?_)
      refine skip_ (w1 := ?_) (by rfl) rfl ?_ ?_
      rotate_left
      · go_simp
        rfl
      refine hK.out _ _ ⟨BoxAt.c0 hBA0_, BoxAt.c1 hBA0_, BoxAt.c0 hBA1_, BoxAt.c1 hBA1_⟩ (fun hHeld => ?_)
      clear hK K
      refine pure_ (i := 10) (N := (some 16)) (v := ?_) (a' := ?_) #[true, true, true, true, true, true, true, true, true, true, true] rfl rfl (by kernel_rfl) (fun _ _ _ h => h) (Or.inl ⟨by rfl, ?_⟩) ?_ ?_
      rotate_left
      · intro w'
        go_simp
        with_reducible rfl
      rotate_left
      · simp only [Act.put, List.setIfInBounds_toArray, List.set_cons_zero, List.set_cons_succ, i64_w, i32_w]; rfl
      refine done_ (by kernel_rfl) ?_
      obtain ⟨w22, hw⟩ : ∃ W, W = ((w21.setCell ⟨gH, 0, none⟩ (.slice AH P'.length cH)).setCell ⟨gH, 1, none⟩ (.slice BH R.length eH)) := ⟨_, rfl⟩
      have hszk : w22.heap.size = w21.heap.size := by rw [hw]; simp [World.setCell]
      rw [← hw] at hBA0_ hBA1_ hW hBW hG hBG hrx hkb hkK ⊢
      have BA0_22 := Lib.hid hBA0_
      have ba0_c22 := BA0_22.out.c0
      have ba0_d22 := BA0_22.out.c1
      have BA1_22 := Lib.hid hBA1_
      have ba1_c22 := BA1_22.out.c0
      have ba1_d22 := BA1_22.out.c1
      have W22 := Lib.hid hW
      have BW22 := Lib.hid hBW
      have bwc22 := BW22.out.c0
      have bwd22 := BW22.out.c1
      have G22 := Lib.hid hG
      have BG22 := Lib.hid hBG
      have bgc22 := BG22.out.c0
      have bgd22 := BG22.out.c1
      have H22 := Lib.hid hrx; have SH22 := Lib.hid f_sx
      have BH22 := Lib.hid (show BoxAt w22 gH 29 (.slice AH P'.length cH) (.slice BH R.length eH) from hkb); have bhc22 := BH22.out.c0; have bhd22 := BH22.out.c1
      have K22 := Lib.hid hkK; have z22 : w20.heap.size ≤ w22.heap.size := by rw [hszk]; exact f_hzd
      have y22 : gH < w22.heap.size := by rw [hszk]; exact hgl
      have y22b : bH ≤ w22.heap.size := by rw [hszk]; exact f_bx_
      clear hw hg0 hg1 hgz0 hgz1 hgl hk hkb hkK hrx hszk hHeld hBA0_ hBA1_ hW hBW hG hBG f_BA0_ f_BA1_ f_W f_BW f_G f_BG f_Kd_ f_hzd f_sx f_rx f_gx f_bx_ f_d0 f_d1
      go_wp2_with (first
        | (go_at_call 13; refine (eqr_step P' _ _ R SH22.out SW4.out hp1 HR1.out HR2.out _ _ _ _ _ _ _ _ _ (OwnM.readn SH22.out H22.out) (RefM.readn SW4.out W22.out)).mono ?_; rintro E w23 ⟨rfl, hb⟩; have z23 := hb.size; have BA0_23 := Lib.hid (BA0_22.out.below hb); have ba0_c23 := BA0_23.out.c0; have ba0_d23 := BA0_23.out.c1; (try clear ba0_c22 ba0_d22); have BA1_23 := Lib.hid (BA1_22.out.below hb); have ba1_c23 := BA1_23.out.c0; have ba1_d23 := BA1_23.out.c1; (try clear ba1_c22 ba1_d22); have W23 := Lib.hid (W22.out.below hb); have BW23 := Lib.hid (BW22.out.below hb); have bwc23 := BW23.out.c0; have bwd23 := BW23.out.c1; (try clear bwc22 bwd22); have G23 := Lib.hid (G22.out.below hb); have BG23 := Lib.hid (BG22.out.below hb); have bgc23 := BG23.out.c0; have bgd23 := BG23.out.c1; (try clear bgc22 bgd22); have H23 := Lib.hid (H22.out.below hb); have BH23 := Lib.hid (BH22.out.below hb); have bhc23 := BH23.out.c0; have bhd23 := BH23.out.c1; (try clear bhc22 bhd22); have K23 := Lib.hid (below_then K22.out hb K22.out.size); clear hb; skip)
        | (go_at_call 15; refine (heldM_step P' R hp1 HR1.out HR2.out 1 (by omega) (by omega) _ _ _ _ _ _ _ G23.out).mono ?_; rintro E w24 ⟨rfl, hb⟩; have z24 := hb.size; have BA0_24 := Lib.hid (BA0_23.out.below hb); have ba0_c24 := BA0_24.out.c0; have ba0_d24 := BA0_24.out.c1; (try clear ba0_c23 ba0_d23); have BA1_24 := Lib.hid (BA1_23.out.below hb); have ba1_c24 := BA1_24.out.c0; have ba1_d24 := BA1_24.out.c1; (try clear ba1_c23 ba1_d23); have W24 := Lib.hid (W23.out.below hb); have BW24 := Lib.hid (BW23.out.below hb); have bwc24 := BW24.out.c0; have bwd24 := BW24.out.c1; (try clear bwc23 bwd23); have G24 := Lib.hid (G23.out.below hb); have BG24 := Lib.hid (BG23.out.below hb); have bgc24 := BG24.out.c0; have bgd24 := BG24.out.c1; (try clear bgc23 bgd23); have H24 := Lib.hid (H23.out.below hb); have BH24 := Lib.hid (BH23.out.below hb); have bhc24 := BH24.out.c0; have bhd24 := BH24.out.c1; (try clear bhc23 bhd23); have K24 := Lib.hid (below_then K23.out hb K23.out.size); clear hb; skip)
        | fail)
      go_ret
      exact ⟨rfl, K24.out⟩

end Go.Proofs.Ytlendjpmblapkab
namespace Go.Proofs.Ytlendjpmblapkab
open Go.ChangeShapes Go.WideShapes Go.ChangeAt Go.RowKit Go.Deep
open Go.ChangeMaps (open_string shut_string)

/-- A row of cells that can be read from A on; nil has none. -/
def RowIn (w : World) (A : Option Addr) (cs : List Value) : Prop :=
  (A = none ∧ cs = []) ∨ ∃ b off, A = some ⟨b, off, none⟩ ∧ b < w.heap.size ∧ ∀ i v, cs[i]? = some v → w.cell? ⟨b, off + i, none⟩ = some v

section
variable {H : Type} {enc : TypeId × Value → H} {P : Program} {w : World} {base : Nat} {spare : Nat → Bool} {held : Bool}

theorem flt_lt {k : FloatKind} {b : Nat} (h : (Lit.float k b).wf = true) : b < 2 ^ k.format.width := by
  cases k
  · show b < 4294967296; simpa [Lit.wf] using h
  · show b < 18446744073709551616; simpa [Lit.wf] using h

theorem op_float {r : Reach} {b0 : Nat} {t : TypeId} {k : FloatKind} {v : Value} {d : DataW H} {ps : List MemPlace} (ht : P.underlying t = some (.float k)) (hval : Value.okWide P w r b0 t v) (hd : DataW.Trod enc P w base spare held t v d ps) :
    ∃ b, b < 2 ^ k.format.width ∧ v = .float k b := by
  obtain ⟨b, rfl, _, _, hw⟩ := open_float ht hval hd
  exact ⟨b, flt_lt hw, rfl⟩

theorem op_int {r : Reach} {b0 : Nat} {t : TypeId} {k : IntKind} {v : Value} {d : DataW H} {ps : List MemPlace} (ht : P.underlying t = some (.int k)) (hval : Value.okWide P w r b0 t v) (hd : DataW.Trod enc P w base spare held t v d ps) :
    ∃ n, (k.min ≤ n ∧ n ≤ k.max) ∧ v = .int k n := by
  obtain ⟨n, rfl, _, _, hw⟩ := open_int ht hval hd
  exact ⟨n, by simpa [Lit.wf] using hw, rfl⟩

theorem op_string {r : Reach} {b0 : Nat} {t : TypeId} {v : Value} {d : DataW H} {ps : List MemPlace} (ht : P.underlying t = some .string) (hval : Value.okWide P w r b0 t v) (hd : DataW.Trod enc P w base spare held t v d ps) :
    ∃ s : ByteArray, s.size ≤ maxLen ∧ v = .string s := by
  obtain ⟨s, rfl, _, _, hw⟩ := open_string ht hval hd
  exact ⟨s, hw, rfl⟩

theorem trod_float {t : TypeId} {k : FloatKind} {n : Nat} {v : Value} {x : DataW H × List MemPlace} (ht : P.underlying t = some (.float k)) (h : DataW.trod enc P w base spare held n t [v] = some x) :
    ∃ b, b < 2 ^ k.format.width ∧ v = .float k b := by
  cases n with
  | zero => simp [DataW.trod] at h
  | succ n =>
    simp only [DataW.trod, ht] at h
    cases v <;> simp at h
    rename_i k' b
    obtain ⟨⟨rfl, hw⟩, _⟩ := h
    exact ⟨b, flt_lt hw, rfl⟩

theorem op_vec {r : Reach} {b0 : Nat} {t f : TypeId} {F : Array Field} {v : Value} {d : DataW H} {p : List MemPlace} (hs : P.underlying t = some (.struct F)) (hf : P.underlying f = some (.float .f32))
    (hF : (F.map (·.type)) = #[f, f, f]) (hone0 : oneCellFields P F = true) (hC : P.cellsOf t = 3)
    (hv : Value.okWide P w r b0 t v) (h : DataW.Trod enc P w base spare held t v d p) :
    ∃ x y z : Nat, x < 2 ^ 32 ∧ y < 2 ^ 32 ∧ z < 2 ^ 32 ∧ v = .agg #[.float .f32 x, .float .f32 y, .float .f32 z] := by
  obtain ⟨F⟩ := F
  have hl : F.length = 3 := by simpa using congrArg Array.size hF
  match F, hl with
  | [f0, f1, f2], _ =>
    simp at hF
    obtain ⟨e0, e1, e2⟩ := hF
    have hone : oneCellFields P #[f0, f1, f2] = true := hone0
    obtain ⟨v0, v1, v2, y0, y1, y2, n, rfl, _, _, t0, t1, t2⟩ := Joins.open_agg3 hs hone hC hv h
    rw [e0] at t0; rw [e1] at t1; rw [e2] at t2
    obtain ⟨x, hx, rfl⟩ := trod_float hf t0
    obtain ⟨y, hy, rfl⟩ := trod_float hf t1
    obtain ⟨z, hz, rfl⟩ := trod_float hf t2
    exact ⟨x, y, z, hx, hy, hz, rfl⟩
end
end Go.Proofs.Ytlendjpmblapkab
namespace Go.Proofs.Ytlendjpmblapkab
open Go.ChangeShapes Go.WideShapes Go.ChangeAt Go.RowKit Go.Deep Go.Proofs.YtlendjpmblapkabW.PrintWords Go.Proofs.Ytlendjpmblapkab.PMesh Msh
set_option linter.unusedVariables false

section
variable {H : Type} {enc : TypeId × Value → H} {P : Program} {w : World} {base : Nat} {held : Bool}

/-- A slice whose elements are opened one by one. -/
theorem op_rows {α : Type} (d : Kd α) (ok : α → Prop) {t e : TypeId} (ht : P.underlying t = some (.slice e)) (hC : P.cellsOf e = d.sz)
    (hel : ∀ (n : Nat) (cs : List Value) (y : DataW H × List MemPlace), DataW.trod enc P w base (fun _ => true) held n e cs = some y → ∃ x : α, d.K w x cs ∧ ok x)
    {fuel : Nat} {cs : List Value} {y : DataW H × List MemPlace} (h : DataW.trod enc P w base (fun _ => true) held fuel t cs = some y) :
    ∃ (A : Option Addr) (c : Nat) (xs : List α), cs = [.slice A xs.length c] ∧ xs.length ≤ c ∧ xs.length ≤ 9223372036854775807 ∧ Kd.C d w A xs.length xs ∧ ∀ x ∈ xs, ok x := by
  rcases open_slice ht h with ⟨rfl, _⟩ | ⟨a, len, cap, m, n, D, Pl, rfl, _, hl, hm, hmm, hyy, hx⟩
  · exact ⟨none, 0, [], rfl, Nat.le_refl _, by simp, Kd.C_nil d w, fun x hx => by simp at hx⟩
  · have hml : len ≤ m := by rw [hmm]; split <;> omega
    have each : ∀ i, i < len → ∃ x : α, (∃ cs', w.cells? base (a.add (i * d.sz)) d.sz = some cs' ∧ d.K w x cs') ∧ ok x := by
      intro i hi
      obtain ⟨cs', hc, ht'⟩ := hx i (by omega)
      rw [hC] at hc
      obtain ⟨x, hk, ho⟩ := hel n cs' _ ht'
      exact ⟨x, ⟨cs', hc, hk⟩, ho⟩
    obtain ⟨xs, hxl, hxs⟩ : ∃ xs : List α, xs.length = len ∧ ∀ i x, xs[i]? = some x → (∃ cs', w.cells? base (a.add (i * d.sz)) d.sz = some cs' ∧ d.K w x cs') ∧ ok x := by
      clear hx hml hmm hl hm hyy h
      induction len with
      | zero => exact ⟨[], rfl, fun i x hx => by simp at hx⟩
      | succ k ih =>
        obtain ⟨xs, hl, hx⟩ := ih (fun i hi => each i (by omega))
        obtain ⟨z, hz⟩ := each k (by omega)
        refine ⟨xs ++ [z], by simp [hl], fun i x hix => ?_⟩
        rcases Nat.lt_or_ge i xs.length with h' | h'
        · rw [List.getElem?_append_left h'] at hix
          exact hx i x hix
        · rw [List.getElem?_append_right h'] at hix
          have : i - xs.length = 0 := by
            rcases Nat.eq_zero_or_pos (i - xs.length) with h0 | h0
            · exact h0
            · rw [List.getElem?_eq_none (by simp; omega)] at hix; cases hix
          obtain rfl : i = k := by omega
          rw [this] at hix
          cases hix
          exact hz
    have hM : maxLen = 9223372036854775807 := rfl
    subst hxl
    refine ⟨some a, cap, xs, rfl, hl, by omega, ⟨rfl, by omega, fun _ => ⟨a, rfl, fun j p hj => ?_⟩⟩, fun x hxm => ?_⟩
    · obtain ⟨⟨cs', hc, hk⟩, _⟩ := hxs j p hj
      obtain ⟨_, hcl, hat⟩ := World.cells?_some hc
      refine ⟨cs', hcl, hk, fun i u hu => ?_⟩
      have hi : i < d.sz := by
        rcases Nat.lt_or_ge i cs'.length with h' | h'
        · omega
        · rw [List.getElem?_eq_none h'] at hu; cases hu
      have := hat i hi
      rw [Go.Deep.add_add] at this
      rw [this, hu]
    · obtain ⟨i, hi, rfl⟩ := List.getElem_of_mem hxm
      exact (hxs i _ (List.getElem?_eq_getElem hi)).2

theorem trod_int1 {t : TypeId} {k : IntKind} {n : Nat} {cs : List Value} {x : DataW H × List MemPlace} (ht : P.underlying t = some (.int k)) (hC : P.cellsOf t = 1) (h : DataW.trod enc P w base (fun _ => true) held n t cs = some x) :
    ∃ b : Int, cs = [.int k b] ∧ (Lit.int k b).wf = true := by
  cases n with
  | zero => simp [DataW.trod] at h
  | succ n =>
    simp only [DataW.trod, ht] at h
    match cs with
    | [] => simp at h
    | [v] =>
      cases v <;> simp at h
      rename_i k' b
      obtain ⟨⟨rfl, hw⟩, _⟩ := h
      exact ⟨b, rfl, hw⟩
    | _ :: _ :: _ => simp at h

theorem op_tris {t e q : TypeId} (ht : P.underlying t = some (.slice e)) (he : P.underlying e = some (.slice q)) (hq : P.underlying q = some (.int .i64)) (ce : P.cellsOf e = 1) (cq : P.cellsOf q = 1)
    {fuel : Nat} {cs : List Value} {y : DataW H × List MemPlace} (h : DataW.trod enc P w base (fun _ => true) held fuel t cs = some y) :
    ∃ (A : Option Addr) (c : Nat) (T : List (List Int)), cs = [.slice A T.length c] ∧ T.length ≤ c ∧ T.length ≤ 9223372036854775807 ∧ Kd.C (Kd.slice q (Kd.int .i64)) w A T.length T ∧ ∀ t ∈ T, t.length ≤ 9223372036854775807 := by
  refine op_rows (Kd.slice q (Kd.int .i64)) (fun t => t.length ≤ 9223372036854775807) ht ce (fun n cs y hy => ?_) h
  obtain ⟨A, c, xs, rfl, hc, hl, hC, _⟩ := op_rows (Kd.int .i64) (fun _ => True) he cq (fun n cs y hy => by
    obtain ⟨b, rfl, _⟩ := trod_int1 hq cq hy
    exact ⟨b, rfl, trivial⟩) hy
  exact ⟨xs, ⟨A, c, rfl, hc, hC⟩, hl⟩

theorem op_vrow {t f : TypeId} {f0 f1 f2 : Field} {n : Nat} {cs : List Value} {x : DataW H × List MemPlace} (hs : P.underlying t = some (.struct #[f0, f1, f2])) (hf : P.underlying f = some (.float .f32)) (e0 : f0.type = f) (e1 : f1.type = f) (e2 : f2.type = f)
    (hone : oneCellFields P #[f0, f1, f2] = true) (hC : P.cellsOf t = 3) (h : DataW.trod enc P w base (fun _ => true) held n t cs = some x) :
    ∃ a b c : Nat, a < 4294967296 ∧ b < 4294967296 ∧ c < 4294967296 ∧ cs = [.float .f32 a, .float .f32 b, .float .f32 c] := by
  obtain ⟨y0, y1, y2, m, _, hl, t0, t1, t2⟩ := trod_struct3 hs h
  rw [hC] at hl
  obtain ⟨o0, k0⟩ := hone_of hone 0 f0 rfl
  obtain ⟨o1, k1⟩ := hone_of hone 1 f1 rfl
  obtain ⟨o2, k2⟩ := hone_of hone 2 f2 rfl
  match cs, hl with
  | [v0, v1, v2], _ =>
    rw [o0, k0, e0] at t0
    rw [o1, k1, e1] at t1
    rw [o2, k2, e2] at t2
    obtain ⟨a, ha, rfl⟩ := trod_float (v := v0) hf t0
    obtain ⟨b, hb, rfl⟩ := trod_float (v := v1) hf t1
    obtain ⟨c, hc, rfl⟩ := trod_float (v := v2) hf t2
    exact ⟨a, b, c, ha, hb, hc, rfl⟩

theorem op_mesh {r : Reach} {b0 : Nat} {t tp tv tf tt ts ti : TypeId} {F G : Array Field} {v : Value} {d : DataW H} {p : List MemPlace}
    (hs : P.underlying t = some (.struct F)) (hF : (F.map (·.type)) = #[tp, tt]) (hone : oneCellFields P F = true) (hC : P.cellsOf t = 2)
    (hp : P.underlying tp = some (.slice tv)) (hv : P.underlying tv = some (.struct G)) (hG : (G.map (·.type)) = #[tf, tf, tf]) (honeG : oneCellFields P G = true) (hCv : P.cellsOf tv = 3) (hf : P.underlying tf = some (.float .f32))
    (ht : P.underlying tt = some (.slice ts)) (hts : P.underlying ts = some (.slice ti)) (hti : P.underlying ti = some (.int .i64)) (cs1 : P.cellsOf ts = 1) (ci : P.cellsOf ti = 1)
    (hval : Value.okWide P w r b0 t v) (h : DataW.Trod enc P w base (fun _ => true) held t v d p) :
    ∃ (A : Option Addr) (c : Nat) (L : List S38) (B : Option Addr) (e : Nat) (T : List (List Int)), v = .agg #[.slice A L.length c, .slice B T.length e] ∧ Kd.C k38 w A L.length L ∧ L.length ≤ c ∧ Kd.C (Kd.slice ti (Kd.int .i64)) w B T.length T ∧ T.length ≤ e ∧ MeshOk L T := by
  obtain ⟨F⟩ := F
  obtain ⟨G⟩ := G
  have hl : F.length = 2 := by simpa using congrArg Array.size hF
  have hlG : G.length = 3 := by simpa using congrArg Array.size hG
  match F, hl, G, hlG with
  | [f0, f1], _, [g0, g1, g2], _ =>
    simp at hF hG
    obtain ⟨e0, e1⟩ := hF
    obtain ⟨e2, e3, e4⟩ := hG
    obtain ⟨v0, v1, y0, y1, n, rfl, _, _, t0, t1⟩ := Joins.open_agg2 hs hone hC hval h
    rw [e0] at t0
    rw [e1] at t1
    obtain ⟨A, c, L, hA, hc, hL, hCL, hok⟩ := op_rows k38 (fun x => x.f0 < 4294967296 ∧ x.f1 < 4294967296 ∧ x.f2 < 4294967296) hp hCv (fun n cs y hy => by
      obtain ⟨a, b, c, ha, hb, hc, rfl⟩ := op_vrow hv hf e2 e3 e4 honeG hCv hy
      exact ⟨⟨a, b, c⟩, k38_mk w ⟨a, b, c⟩, ha, hb, hc⟩) t0
    obtain ⟨B, e, T, hB, he, hT, hCT, hr⟩ := op_tris ht hts hti cs1 ci t1
    cases hA
    cases hB
    exact ⟨A, c, L, B, e, T, rfl, hCL, hc, hCT, he, ⟨hL, hT, hr, hok⟩⟩
end
end Go.Proofs.Ytlendjpmblapkab
