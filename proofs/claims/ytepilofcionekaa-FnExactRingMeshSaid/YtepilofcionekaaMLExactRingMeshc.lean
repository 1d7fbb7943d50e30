/-
  The proof's texts, one behind the other: XMring XMrings XMringl XOpen.
-/
import Derived.Test.YtepilofcionekaaMLExactRingMeshb
import Derived.Test.YtepilofcionekaaPMeshx34
import Derived.Test.YtepilofcionekaaPMeshx22
import Derived.Laws.Cover2
import Derived.ProofKit
import Derived.WalkKit
import Derived.OpenShut
import Derived.Lib.SmallJoins
namespace Go.Proofs.Ytepilofcionekaa
open Fl Go.RowKit Go.Proofs.YtepilofcionekaaW.PrintWords Go.Proofs.YtepilofcionekaaW.PrintLast Go.Proofs.YtepilofcionekaaW.PrintMore Go.Proofs.Ytepilofcionekaa.PMesh Msh
set_option linter.unusedVariables false
set_option linter.unusedSimpArgs false

set_option maxHeartbeats 8000000 in
set_option maxRecDepth 100000 in
theorem impl_RingMesh (a0 a1 : Int) (v0 v1 : Nat) (w : World) :
    Calls Try.prog 20 #[.int .i64 a0, .int .i64 a1, .float .f32 v0, .float .f32 v1] w (AnsMs w (ringR a0 a1 v0 v1).1 (ringR a0 a1 v0 v1).2.1 (ringR a0 a1 v0 v1).2.2) := by
  have B0 := Lib.hid (below_alloc (Below.refl w.heap.size w) (.cells #[.slice none 0 0, .slice none 0 0] 27))
  have F0 := Lib.hid (BoxAt.new w 27 (.slice none 0 0) (.slice none 0 0))
  have HW := Lib.hid (fun (W' : World) => impl_within.calls a0 3 16 (decide (3 ≤ a0 ∧ a0 ≤ 16)) W' (bounds_g a0 3 16))
  have HH := Lib.hid (fun (W' : World) => impl_within.calls a1 1 64 (decide (1 ≤ a1 ∧ a1 ≤ 64)) W' (bounds_g a1 1 64))
  by_cases hw : 3 ≤ a0 ∧ a0 ≤ 16
  · rw [decide_eq_true hw] at HW
    by_cases hh : 1 ≤ a1 ∧ a1 ≤ 64
    · rw [decide_eq_true hh] at HH
      by_cases hs0 : G8.sizeB v0 = true
      · have HS0 := Lib.hid hs0
        by_cases hs1 : G8.sizeB v1 = true
        · have HS1 := Lib.hid hs1
          have hr : ringR a0 a1 v0 v1 = joinV (ringP a0.toNat a1.toNat v0 v1) (ringT a0.toNat a1.toNat) := by unfold ringR; rw [if_pos (by unfold ringOk; rw [decide_eq_true hw, decide_eq_true hh, hs0, hs1]; rfl)]
          rw [hr]
          obtain ⟨hw1, hw2⟩ := hw
          obtain ⟨hh1, hh2⟩ := hh
          obtain ⟨W, hWI⟩ : ∃ W : Nat, a0 = (W : Int) := ⟨a0.toNat, by omega⟩
          obtain ⟨H, hHI⟩ : ∃ H : Nat, a1 = (H : Int) := ⟨a1.toNat, by omega⟩
          have HWI := Lib.hid hWI; have HHI := Lib.hid hHI
          have htw : a0.toNat = W := by omega
          have hth : a1.toNat = H := by omega
          rw [htw, hth]
          have W16 : W ≤ 16 := by omega
          have W3 : 3 ≤ W := by omega
          have H64 : H ≤ 64 := by omega
          have eh : wrap64 (a1 + 1) = a1 + 1 := Msh.wrap_fit (by omega) (by omega)
          clear hr hs0 hs1 hWI hHI htw hth
          go_enter Try.func20, Try.ntmps20
          go_wp2_with (first
              | (go_at_call 58; first | (have hb1 := B1.out; refine (HH.out _).mono ?_; rintro E w2 ⟨rfl, hd⟩; have B2 := Lib.hid (below_step B1.out hd.below); have F2 := Lib.hid (F1.out.below hd.below); clear hd hb1; skip) | (refine (HW.out _).mono ?_; rintro E w1 ⟨rfl, hd⟩; have B1 := Lib.hid (below_step B0.out hd.below); have F1 := Lib.hid (F0.out.below hd.below); clear hd; skip))
              | (go_at_call 59; first | (have hb3 := B3.out; refine (G8.impl_isOver _ _).mono ?_; rw [HS1.out]; rintro E w4 ⟨rfl, n, e4_⟩; have hn : Below w3.heap.size w3 w4 := (by rw [e4_]; exact pw_below_drewN (Below.refl w3.heap.size w3) n); clear e4_; have B4 := Lib.hid (below_step B3.out hn); have F4 := Lib.hid (F3.out.below hn); clear hn hb3; skip) | (refine (G8.impl_isOver _ _).mono ?_; rw [HS0.out]; rintro E w3 ⟨rfl, n, e3_⟩; have hn : Below w2.heap.size w2 w3 := (by rw [e3_]; exact pw_below_drewN (Below.refl w2.heap.size w2) n); clear e3_; have B3 := Lib.hid (below_step B2.out hn); have F3 := Lib.hid (F2.out.below hn); clear hn; skip))
              | fail)
          have hgl := F4.out.lt
          obtain ⟨wA, hwA⟩ : ∃ W', W' = w4.alloc (.cells #[.slice none 0 0, .slice none 0 0] 27) := ⟨_, rfl⟩
          have hvA : Below w4.heap.size w4 wA := by rw [hwA]; exact below_alloc (Below.refl _ _) _
          have BA := Lib.hid (below_step B4.out hvA)
          have FA := Lib.hid (F4.out.below hvA)
          have GA := Lib.hid (show BoxAt wA w4.heap.size 27 (.slice none 0 0) (.slice none 0 0) by rw [hwA]; exact BoxAt.new w4 27 _ _)
          have QA := Lib.hid (Kd.R_nil k42 42 wA w.heap.size (fun _ => True))
          have TA := Lib.hid (Kd.S_nil (Kd.slice 2 (Kd.int .i64)) 56 wA w.heap.size (fun _ => True))
          rw [← hwA]
          clear hwA hvA B1 B2 B3 B4 F1 F2 F3 F4 B0 F0 HW HH HS0 HS1
          generalize w4.heap.size = g at *
          go_loopw [38] (fun k wr => ∃ (y : Nat) (yi : Int) (u vt : Value) (l : List S42), y ≤ H + 1 ∧ k = .int .i64 yi ∧ Hid (yi = (y : Int)) ∧ Hid (Below w.heap.size w wr) ∧ Hid (BoxAt wr (w.heap.size) 27 (.slice none 0 0) (.slice none 0 0)) ∧ Hid (BoxAt wr g 27 u vt) ∧ Hid (PR v0 v1 W (y * W) l) ∧ Hid (Kd.R k42 42 wr w.heap.size (fun _ => True) u l) ∧ Hid (Kd.S (Kd.slice 2 (Kd.int .i64)) 56 wr w.heap.size (fun _ => True) vt (ringTn W (min (y * W) (H * W))))) (fun k _ => (H + 1) - (intOf k).toNat)
          case atStart => exact ⟨0, 0, _, _, [], Nat.zero_le _, rfl, Lib.hid rfl, BA, FA, GA, Lib.hid (by rw [Nat.zero_mul]; exact PR.zero _ _ _), QA, Lib.hid (by rw [Nat.zero_mul, Nat.zero_min]; exact TA.out)⟩
          case round =>
            clear BA FA GA QA TA
            obtain ⟨y, yi, u, vt, l, hy, rfl, HYI, HB, HF, HG, HP, HR, HS⟩ := hrel
            by_cases hlt : y < H + 1
            · have y1 : yi < a1 + 1 := by rw [HYI.out, HHI.out]; omega
              have y3 : yi < 9223372036854775807 := by rw [HYI.out]; omega
              have y4 : (0 : Int) ≤ yi := by rw [HYI.out]; omega
              go_wp2_with fail
              go_loopw [42] (fun k wr => ∃ (x : Nat) (xi : Int) (u vt : Value) (l : List S42), x ≤ W ∧ k = .int .i64 xi ∧ Hid (xi = (x : Int)) ∧ Hid (Below w.heap.size w wr) ∧ Hid (BoxAt wr (w.heap.size) 27 (.slice none 0 0) (.slice none 0 0)) ∧ Hid (BoxAt wr g 27 u vt) ∧ Hid (PR v0 v1 W (y * W + x) l) ∧ Hid (Kd.R k42 42 wr w.heap.size (fun _ => True) u l) ∧ Hid (Kd.S (Kd.slice 2 (Kd.int .i64)) 56 wr w.heap.size (fun _ => True) vt (ringTn W (min (y * W + x) (H * W))))) (fun k _ => W - (intOf k).toNat)
              case atStart => exact ⟨0, 0, u, vt, l, Nat.zero_le _, rfl, Lib.hid rfl, HB, HF, HG, HP, HR, HS⟩
              case round =>
                clear HB HF HG HP HR HS
                obtain ⟨x, xi, u, vt, l, hx, rfl, HXI, HB, HF, HG, HP, HR, HS⟩ := hrel
                by_cases hxlt : x < W
                · have x1 : xi < a0 := by rw [HXI.out, HWI.out]; omega
                  have x3 : xi < 9223372036854775807 := by rw [HXI.out]; omega
                  have x4 : (0 : Int) ≤ xi := by rw [HXI.out]; omega
                  have hlp : Hid (l.length ≤ 16384) := Lib.hid (by rw [HP.out.len]; have := Nat.mul_le_mul_right W (show y ≤ 64 by omega); omega)
                  go_wp2_with (first
                    | (refine wpList_fbin (o := ⟨some 49, _, _, _, _, _⟩) rfl _ _ _ _ _ rfl (by decide) _ _ _ rfl rfl ?_; intro q0 nq0 hq0)
                    | fail)
                  obtain ⟨w7, hw7⟩ : ∃ W', W' = wr.drewN nq0 := ⟨_, rfl⟩
                  have hv7 : Below wr.heap.size wr w7.drew := by rw [hw7]; exact Below.drew (pw_below_drewN (Below.refl _ _) _)
                  rw [← hw7]
                  have d_B := below_step HB.out hv7; have d_F := HF.out.below hv7; have d_G := HG.out.below hv7; have d_R := Kd.R_below HR.out hv7; have d_T := Kd.S_below HS.out hv7; have d_q := hq0
                  clear hw7 hv7 HB HF HG HR HS hq0
                  refine start_ (n := 20) (S := fun w' => w'.cell? ⟨g, 0, none⟩ = some u) (ds := [19]) #[false, false, false, false, false, false, false, false, false, false, false, false, false, false, false, false, false, false, false, false] (by kernel_rfl) rfl rfl d_G.c0 (fun hHeld => ?_)
                  generalize w7.drew = w13 at d_B d_F d_G d_R d_T hHeld ⊢
                  refine pure_ (i := 0) (N := (some 50)) (v := ?_) (a' := ?_) #[true, false, false, false, false, false, false, false, false, false, false, false, false, false, false, false, false, false, false, false] rfl rfl (by kernel_rfl) (fun _ _ _ h => h) (Or.inl ⟨by rfl, ?_⟩) ?_ ?_
                  rotate_left
                  · intro w'
                    go_simp
                    with_reducible rfl
                  rotate_left
                  · simp only [Act.put, List.setIfInBounds_toArray, List.set_cons_zero, List.set_cons_succ, i64_w, i32_w]; rfl
                  refine pure_ (i := 2) (N := (some 52)) (v := ?_) (a' := ?_) #[true, false, true, false, false, false, false, false, false, false, false, false, false, false, false, false, false, false, false, false] rfl rfl (by kernel_rfl) (fun _ _ _ h => h) (Or.inl ⟨by rfl, ?_⟩) ?_ ?_
                  rotate_left
                  · intro w'
                    go_simp
                    with_reducible rfl
                  rotate_left
                  · simp only [Act.put, List.setIfInBounds_toArray, List.set_cons_zero, List.set_cons_succ, i64_w, i32_w]; rfl
                  refine pure_ (i := 3) (N := (some 53)) (v := ?_) (a' := ?_) #[true, false, true, true, false, false, false, false, false, false, false, false, false, false, false, false, false, false, false, false] rfl rfl (by kernel_rfl) (fun _ _ _ h => h) (Or.inl ⟨by rfl, ?_⟩) ?_ ?_
                  rotate_left
                  · intro w'
                    go_simp
                    with_reducible rfl
                  rotate_left
                  · simp only [Act.put, List.setIfInBounds_toArray, List.set_cons_zero, List.set_cons_succ, i64_w, i32_w]; rfl
                  refine pure_ (i := 7) (N := (some 57)) (v := ?_) (a' := ?_) #[true, false, true, true, false, false, false, true, false, false, false, false, false, false, false, false, false, false, false, false] rfl rfl (by kernel_rfl) (fun _ _ _ h => h) (Or.inl ⟨by rfl, ?_⟩) ?_ ?_
                  rotate_left
                  · intro w'
                    go_simp
                    with_reducible rfl
                  rotate_left
                  · simp only [Act.put, List.setIfInBounds_toArray, List.set_cons_zero, List.set_cons_succ, i64_w, i32_w]; rfl
                  refine pure_ (i := 8) (N := (some 58)) (v := ?_) (a' := ?_) #[true, false, true, true, false, false, false, true, true, false, false, false, false, false, false, false, false, false, false, false] rfl rfl (by kernel_rfl) (fun _ _ _ h => h) (Or.inl ⟨by rfl, ?_⟩) ?_ ?_
                  rotate_left
                  · intro w'
                    go_simp
                    with_reducible rfl
                  rotate_left
                  · simp only [Act.put, List.setIfInBounds_toArray, List.set_cons_zero, List.set_cons_succ, i64_w, i32_w]; rfl
                  refine pure_ (i := 11) (N := (some 61)) (v := ?_) (a' := ?_) #[true, false, true, true, false, false, false, true, true, false, false, true, false, false, false, false, false, false, false, false] rfl rfl (by kernel_rfl) (fun _ _ _ h => h) (Or.inl ⟨by rfl, ?_⟩) ?_ ?_
                  rotate_left
                  · intro w'
                    go_simp
                    with_reducible rfl
                  rotate_left
                  · simp only [Act.put, List.setIfInBounds_toArray, List.set_cons_zero, List.set_cons_succ, i64_w, i32_w]; rfl
                  refine pure_ (i := 13) (N := (some 63)) (v := ?_) (a' := ?_) #[true, false, true, true, false, false, false, true, true, false, false, true, false, true, false, false, false, false, false, false] rfl rfl (by kernel_rfl) (fun _ _ _ h => h) (Or.inl ⟨by rfl, ?_⟩) ?_ ?_
                  rotate_left
                  · intro w'
                    go_simp
                    with_reducible rfl
                  rotate_left
                  · simp only [Act.put, List.setIfInBounds_toArray, List.set_cons_zero, List.set_cons_succ, i64_w, i32_w]; rfl
                  refine take_ (i := 1) (N := (some 51)) (v := ?_) (a' := ?_) #[true, true, true, true, false, false, false, true, true, false, false, true, false, true, false, false, false, false, false, false] rfl rfl (by kernel_rfl) (fun _ _ _ h => h) (Or.inl ⟨by rfl, ?_⟩) hHeld ?_ ?_
                  rotate_left
                  · intro w' hSw
                    (try dsimp only at hSw)
                    go_simp
                    with_reducible rfl
                  rotate_left
                  · simp only [Act.put, List.setIfInBounds_toArray, List.set_cons_zero, List.set_cons_succ, i64_w, i32_w]; rfl
                  refine pure_ (i := 12) (N := (some 62)) (v := ?_) (a' := ?_) #[true, true, true, true, false, false, false, true, true, false, false, true, true, true, false, false, false, false, false, false] rfl rfl (by kernel_rfl) (fun _ _ _ h => h) (Or.inl ⟨by rfl, ?_⟩) ?_ ?_
                  rotate_left
                  · intro w'
                    go_simp
                    with_reducible rfl
                  rotate_left
                  · simp only [Act.put, List.setIfInBounds_toArray, List.set_cons_zero, List.set_cons_succ, i64_w, i32_w]; rfl
                  refine join_ (σ := Nat × Nat × Nat × Nat × Nat × Nat) 5 #[true, true, true, true, true, true, true, true, true, true, true, true, true, true, true, false, false, false, false, false] (fun s_ => [(54, .float .f32 s_.1), (55, .float .f32 s_.2.1), (56, .float .f32 s_.2.2.1), (59, .float .f32 s_.2.2.2.1), (60, .float .f32 s_.2.2.2.2.1), (64, .float .f32 s_.2.2.2.2.2)]) (fun s_ w' => (Below w.heap.size w w') ∧ (BoxAt w' (w.heap.size) 27 (.slice none 0 0) (.slice none 0 0)) ∧ (BoxAt w' g 27 u vt) ∧ (Kd.R k42 42 w' w.heap.size (fun _ => True) u l) ∧ (Kd.S (Kd.slice 2 (Kd.int .i64)) 56 w' w.heap.size (fun _ => True) vt (ringTn W (min (y * W + x) (H * W)))) ∧ (FR .f32 q0 (bin .quo .f32 (val .f32 (floatOfInt .f32 xi)) (val .f32 (floatOfInt .f32 a0)))) ∧ (FR .f32 s_.1 (bin .add .f32 (val .f32 q0) (val .f32 1048576000))) ∧ (FR .f32 s_.2.1 (sineTurnsV (val .f32 s_.1))) ∧ (FR .f32 s_.2.2.1 (bin .mul .f32 (val .f32 v0) (val .f32 s_.2.1))) ∧ (FR .f32 s_.2.2.2.1 (sineTurnsV (val .f32 q0))) ∧ (FR .f32 s_.2.2.2.2.1 (bin .mul .f32 (val .f32 v0) (val .f32 s_.2.2.2.1))) ∧ (FR .f32 s_.2.2.2.2.2 (bin .mul .f32 (val .f32 (floatOfInt .f32 yi)) (val .f32 v1)))) ?_ ?_
                  rotate_left
                  · intro hN_f4_c5_m6_c9_m10_m14
                    refine join_ (σ := Nat × Nat × Nat × Nat × Nat) 6 #[true, true, true, true, true, true, true, true, true, true, true, true, true, true, false, false, false, false, false, false] (fun s_ => [(54, .float .f32 s_.1), (55, .float .f32 s_.2.1), (56, .float .f32 s_.2.2.1), (59, .float .f32 s_.2.2.2.1), (60, .float .f32 s_.2.2.2.2)]) (fun s_ w' => (Below w.heap.size w w') ∧ (BoxAt w' (w.heap.size) 27 (.slice none 0 0) (.slice none 0 0)) ∧ (BoxAt w' g 27 u vt) ∧ (Kd.R k42 42 w' w.heap.size (fun _ => True) u l) ∧ (Kd.S (Kd.slice 2 (Kd.int .i64)) 56 w' w.heap.size (fun _ => True) vt (ringTn W (min (y * W + x) (H * W)))) ∧ (FR .f32 q0 (bin .quo .f32 (val .f32 (floatOfInt .f32 xi)) (val .f32 (floatOfInt .f32 a0)))) ∧ (FR .f32 s_.1 (bin .add .f32 (val .f32 q0) (val .f32 1048576000))) ∧ (FR .f32 s_.2.1 (sineTurnsV (val .f32 s_.1))) ∧ (FR .f32 s_.2.2.1 (bin .mul .f32 (val .f32 v0) (val .f32 s_.2.1))) ∧ (FR .f32 s_.2.2.2.1 (sineTurnsV (val .f32 q0))) ∧ (FR .f32 s_.2.2.2.2 (bin .mul .f32 (val .f32 v0) (val .f32 s_.2.2.2.1)))) ?_ ?_
                    · skip
                      rintro ⟨r4, r5, r6, r9, r10⟩ wn ⟨f_B, f_F, f_G, f_R, f_T, f_q, f_r4, f_r5, f_r6, f_r9, f_r10⟩
                      replace f_B : Below w.heap.size w wn := f_B
                      replace f_F : BoxAt wn (w.heap.size) 27 (.slice none 0 0) (.slice none 0 0) := f_F
                      replace f_G : BoxAt wn g 27 u vt := f_G
                      replace f_R : Kd.R k42 42 wn w.heap.size (fun _ => True) u l := f_R
                      replace f_T : Kd.S (Kd.slice 2 (Kd.int .i64)) 56 wn w.heap.size (fun _ => True) vt (ringTn W (min (y * W + x) (H * W))) := f_T
                      replace f_q : FR .f32 q0 (bin .quo .f32 (val .f32 (floatOfInt .f32 xi)) (val .f32 (floatOfInt .f32 a0))) := f_q
                      replace f_r4 : FR .f32 r4 (bin .add .f32 (val .f32 q0) (val .f32 1048576000)) := f_r4
                      replace f_r5 : FR .f32 r5 (sineTurnsV (val .f32 r4)) := f_r5
                      replace f_r6 : FR .f32 r6 (bin .mul .f32 (val .f32 v0) (val .f32 r5)) := f_r6
                      replace f_r9 : FR .f32 r9 (sineTurnsV (val .f32 q0)) := f_r9
                      replace f_r10 : FR .f32 r10 (bin .mul .f32 (val .f32 v0) (val .f32 r9)) := f_r10
                      refine norm_ (a' := ?_) ?_ ?_
                      rotate_left
                      · simp only [putAll, Act.put, List.setIfInBounds_toArray, List.set_cons_zero, List.set_cons_succ]; rfl
                      refine one_ (i := 14) (N := (some 64)) #[true, true, true, true, true, true, true, true, true, true, true, true, true, true, true, false, false, false, false, false] rfl rfl (by kernel_rfl) (by decide) (fun K hK => ?_)
                      refine fbin_step (by rfl) rfl .mul 33 33 _ _ rfl (by decide) ((floatOfInt .f32 yi)) (v1) (by rfl) (by rfl) ?_
                      intro r14 n_ m_r14
                      obtain ⟨wz, hwz⟩ : ∃ W', W' = wn.drewN n_ := ⟨_, rfl⟩
                      rw [← hwz]
                      have hb : Below wn.heap.size wn wz := by rw [hwz]; exact pw_below_drewN (Below.refl _ _) _
                      clear hwz
                      have m_B := below_step f_B hb
                      have m_F := f_F.below hb
                      have m_G := f_G.below hb
                      have m_R := Kd.R_below f_R hb
                      have m_T := Kd.S_below f_T hb
                      have m_q := f_q
                      have m_r4 := f_r4
                      have m_r5 := f_r5
                      have m_r6 := f_r6
                      have m_r9 := f_r9
                      have m_r10 := f_r10
                      refine hK.out _ _ m_G.c0 (fun hHeld => ?_)
                      clear hK K
                      refine norm_ (a' := ?_) ?_ ?_
                      rotate_left
                      · show Act.put _ (some 64) _ = _
                        simp only [Act.put, List.setIfInBounds_toArray, List.set_cons_zero, List.set_cons_succ, i64_w, i32_w]
                        rfl
                      exact norm_ (by simp only [putAll, Act.put, List.setIfInBounds_toArray, List.set_cons_zero, List.set_cons_succ]) (hN_f4_c5_m6_c9_m10_m14 (r4, r5, r6, r9, r10, r14) _ ⟨m_B, m_F, m_G, m_R, m_T, m_q, m_r4, m_r5, m_r6, m_r9, m_r10, m_r14⟩)
                    intro hN_f4_c5_m6_c9_m10
                    refine join_ (σ := Nat × Nat × Nat × Nat × Nat) 6 #[true, true, true, true, true, true, true, true, true, true, false, true, true, true, true, false, false, false, false, false] (fun s_ => [(54, .float .f32 s_.1), (55, .float .f32 s_.2.1), (56, .float .f32 s_.2.2.1), (59, .float .f32 s_.2.2.2.1), (64, .float .f32 s_.2.2.2.2)]) (fun s_ w' => (Below w.heap.size w w') ∧ (BoxAt w' (w.heap.size) 27 (.slice none 0 0) (.slice none 0 0)) ∧ (BoxAt w' g 27 u vt) ∧ (Kd.R k42 42 w' w.heap.size (fun _ => True) u l) ∧ (Kd.S (Kd.slice 2 (Kd.int .i64)) 56 w' w.heap.size (fun _ => True) vt (ringTn W (min (y * W + x) (H * W)))) ∧ (FR .f32 q0 (bin .quo .f32 (val .f32 (floatOfInt .f32 xi)) (val .f32 (floatOfInt .f32 a0)))) ∧ (FR .f32 s_.1 (bin .add .f32 (val .f32 q0) (val .f32 1048576000))) ∧ (FR .f32 s_.2.1 (sineTurnsV (val .f32 s_.1))) ∧ (FR .f32 s_.2.2.1 (bin .mul .f32 (val .f32 v0) (val .f32 s_.2.1))) ∧ (FR .f32 s_.2.2.2.1 (sineTurnsV (val .f32 q0))) ∧ (FR .f32 s_.2.2.2.2 (bin .mul .f32 (val .f32 (floatOfInt .f32 yi)) (val .f32 v1)))) ?_ ?_
                    · skip
                      rintro ⟨r4, r5, r6, r9, r14⟩ wn ⟨f_B, f_F, f_G, f_R, f_T, f_q, f_r4, f_r5, f_r6, f_r9, f_r14⟩
                      replace f_B : Below w.heap.size w wn := f_B
                      replace f_F : BoxAt wn (w.heap.size) 27 (.slice none 0 0) (.slice none 0 0) := f_F
                      replace f_G : BoxAt wn g 27 u vt := f_G
                      replace f_R : Kd.R k42 42 wn w.heap.size (fun _ => True) u l := f_R
                      replace f_T : Kd.S (Kd.slice 2 (Kd.int .i64)) 56 wn w.heap.size (fun _ => True) vt (ringTn W (min (y * W + x) (H * W))) := f_T
                      replace f_q : FR .f32 q0 (bin .quo .f32 (val .f32 (floatOfInt .f32 xi)) (val .f32 (floatOfInt .f32 a0))) := f_q
                      replace f_r4 : FR .f32 r4 (bin .add .f32 (val .f32 q0) (val .f32 1048576000)) := f_r4
                      replace f_r5 : FR .f32 r5 (sineTurnsV (val .f32 r4)) := f_r5
                      replace f_r6 : FR .f32 r6 (bin .mul .f32 (val .f32 v0) (val .f32 r5)) := f_r6
                      replace f_r9 : FR .f32 r9 (sineTurnsV (val .f32 q0)) := f_r9
                      replace f_r14 : FR .f32 r14 (bin .mul .f32 (val .f32 (floatOfInt .f32 yi)) (val .f32 v1)) := f_r14
                      refine norm_ (a' := ?_) ?_ ?_
                      rotate_left
                      · simp only [putAll, Act.put, List.setIfInBounds_toArray, List.set_cons_zero, List.set_cons_succ]; rfl
                      refine one_ (i := 10) (N := (some 60)) #[true, true, true, true, true, true, true, true, true, true, true, true, true, true, true, false, false, false, false, false] rfl rfl (by kernel_rfl) (by decide) (fun K hK => ?_)
                      refine fbin_step (by rfl) rfl .mul 33 33 _ _ rfl (by decide) (v0) (r9) (by rfl) (by rfl) ?_
                      intro r10 n_ m_r10
                      obtain ⟨wz, hwz⟩ : ∃ W', W' = wn.drewN n_ := ⟨_, rfl⟩
                      rw [← hwz]
                      have hb : Below wn.heap.size wn wz := by rw [hwz]; exact pw_below_drewN (Below.refl _ _) _
                      clear hwz
                      have m_B := below_step f_B hb
                      have m_F := f_F.below hb
                      have m_G := f_G.below hb
                      have m_R := Kd.R_below f_R hb
                      have m_T := Kd.S_below f_T hb
                      have m_q := f_q
                      have m_r4 := f_r4
                      have m_r5 := f_r5
                      have m_r6 := f_r6
                      have m_r9 := f_r9
                      have m_r14 := f_r14
                      refine hK.out _ _ m_G.c0 (fun hHeld => ?_)
                      clear hK K
                      refine norm_ (a' := ?_) ?_ ?_
                      rotate_left
                      · show Act.put _ (some 60) _ = _
                        simp only [Act.put, List.setIfInBounds_toArray, List.set_cons_zero, List.set_cons_succ, i64_w, i32_w]
                        rfl
                      exact norm_ (by simp only [putAll, Act.put, List.setIfInBounds_toArray, List.set_cons_zero, List.set_cons_succ]) (hN_f4_c5_m6_c9_m10_m14 (r4, r5, r6, r9, r10, r14) _ ⟨m_B, m_F, m_G, m_R, m_T, m_q, m_r4, m_r5, m_r6, m_r9, m_r10, m_r14⟩)
                    intro hN_f4_c5_m6_c9_m14
                    refine join_ (σ := Nat × Nat × Nat × Nat × Nat) 6 #[true, true, true, true, true, true, false, true, true, true, true, true, true, true, true, false, false, false, false, false] (fun s_ => [(54, .float .f32 s_.1), (55, .float .f32 s_.2.1), (59, .float .f32 s_.2.2.1), (60, .float .f32 s_.2.2.2.1), (64, .float .f32 s_.2.2.2.2)]) (fun s_ w' => (Below w.heap.size w w') ∧ (BoxAt w' (w.heap.size) 27 (.slice none 0 0) (.slice none 0 0)) ∧ (BoxAt w' g 27 u vt) ∧ (Kd.R k42 42 w' w.heap.size (fun _ => True) u l) ∧ (Kd.S (Kd.slice 2 (Kd.int .i64)) 56 w' w.heap.size (fun _ => True) vt (ringTn W (min (y * W + x) (H * W)))) ∧ (FR .f32 q0 (bin .quo .f32 (val .f32 (floatOfInt .f32 xi)) (val .f32 (floatOfInt .f32 a0)))) ∧ (FR .f32 s_.1 (bin .add .f32 (val .f32 q0) (val .f32 1048576000))) ∧ (FR .f32 s_.2.1 (sineTurnsV (val .f32 s_.1))) ∧ (FR .f32 s_.2.2.1 (sineTurnsV (val .f32 q0))) ∧ (FR .f32 s_.2.2.2.1 (bin .mul .f32 (val .f32 v0) (val .f32 s_.2.2.1))) ∧ (FR .f32 s_.2.2.2.2 (bin .mul .f32 (val .f32 (floatOfInt .f32 yi)) (val .f32 v1)))) ?_ ?_
                    · skip
                      rintro ⟨r4, r5, r9, r10, r14⟩ wn ⟨f_B, f_F, f_G, f_R, f_T, f_q, f_r4, f_r5, f_r9, f_r10, f_r14⟩
                      replace f_B : Below w.heap.size w wn := f_B
                      replace f_F : BoxAt wn (w.heap.size) 27 (.slice none 0 0) (.slice none 0 0) := f_F
                      replace f_G : BoxAt wn g 27 u vt := f_G
                      replace f_R : Kd.R k42 42 wn w.heap.size (fun _ => True) u l := f_R
                      replace f_T : Kd.S (Kd.slice 2 (Kd.int .i64)) 56 wn w.heap.size (fun _ => True) vt (ringTn W (min (y * W + x) (H * W))) := f_T
                      replace f_q : FR .f32 q0 (bin .quo .f32 (val .f32 (floatOfInt .f32 xi)) (val .f32 (floatOfInt .f32 a0))) := f_q
                      replace f_r4 : FR .f32 r4 (bin .add .f32 (val .f32 q0) (val .f32 1048576000)) := f_r4
                      replace f_r5 : FR .f32 r5 (sineTurnsV (val .f32 r4)) := f_r5
                      replace f_r9 : FR .f32 r9 (sineTurnsV (val .f32 q0)) := f_r9
                      replace f_r10 : FR .f32 r10 (bin .mul .f32 (val .f32 v0) (val .f32 r9)) := f_r10
                      replace f_r14 : FR .f32 r14 (bin .mul .f32 (val .f32 (floatOfInt .f32 yi)) (val .f32 v1)) := f_r14
                      refine norm_ (a' := ?_) ?_ ?_
                      rotate_left
                      · simp only [putAll, Act.put, List.setIfInBounds_toArray, List.set_cons_zero, List.set_cons_succ]; rfl
                      refine one_ (i := 6) (N := (some 56)) #[true, true, true, true, true, true, true, true, true, true, true, true, true, true, true, false, false, false, false, false] rfl rfl (by kernel_rfl) (by decide) (fun K hK => ?_)
                      refine fbin_step (by rfl) rfl .mul 33 33 _ _ rfl (by decide) (v0) (r5) (by rfl) (by rfl) ?_
                      intro r6 n_ m_r6
                      obtain ⟨wz, hwz⟩ : ∃ W', W' = wn.drewN n_ := ⟨_, rfl⟩
                      rw [← hwz]
                      have hb : Below wn.heap.size wn wz := by rw [hwz]; exact pw_below_drewN (Below.refl _ _) _
                      clear hwz
                      have m_B := below_step f_B hb
                      have m_F := f_F.below hb
                      have m_G := f_G.below hb
                      have m_R := Kd.R_below f_R hb
                      have m_T := Kd.S_below f_T hb
                      have m_q := f_q
                      have m_r4 := f_r4
                      have m_r5 := f_r5
                      have m_r9 := f_r9
                      have m_r10 := f_r10
                      have m_r14 := f_r14
                      refine hK.out _ _ m_G.c0 (fun hHeld => ?_)
                      clear hK K
                      refine norm_ (a' := ?_) ?_ ?_
                      rotate_left
                      · show Act.put _ (some 56) _ = _
                        simp only [Act.put, List.setIfInBounds_toArray, List.set_cons_zero, List.set_cons_succ, i64_w, i32_w]
                        rfl
                      exact norm_ (by simp only [putAll, Act.put, List.setIfInBounds_toArray, List.set_cons_zero, List.set_cons_succ]) (hN_f4_c5_m6_c9_m10_m14 (r4, r5, r6, r9, r10, r14) _ ⟨m_B, m_F, m_G, m_R, m_T, m_q, m_r4, m_r5, m_r6, m_r9, m_r10, m_r14⟩)
                    intro hN_f4_c5_c9_m10_m14
                    refine join_ (σ := Nat × Nat × Nat × Nat) 7 #[true, true, true, true, true, true, true, true, true, true, false, true, true, true, false, false, false, false, false, false] (fun s_ => [(54, .float .f32 s_.1), (55, .float .f32 s_.2.1), (56, .float .f32 s_.2.2.1), (59, .float .f32 s_.2.2.2)]) (fun s_ w' => (Below w.heap.size w w') ∧ (BoxAt w' (w.heap.size) 27 (.slice none 0 0) (.slice none 0 0)) ∧ (BoxAt w' g 27 u vt) ∧ (Kd.R k42 42 w' w.heap.size (fun _ => True) u l) ∧ (Kd.S (Kd.slice 2 (Kd.int .i64)) 56 w' w.heap.size (fun _ => True) vt (ringTn W (min (y * W + x) (H * W)))) ∧ (FR .f32 q0 (bin .quo .f32 (val .f32 (floatOfInt .f32 xi)) (val .f32 (floatOfInt .f32 a0)))) ∧ (FR .f32 s_.1 (bin .add .f32 (val .f32 q0) (val .f32 1048576000))) ∧ (FR .f32 s_.2.1 (sineTurnsV (val .f32 s_.1))) ∧ (FR .f32 s_.2.2.1 (bin .mul .f32 (val .f32 v0) (val .f32 s_.2.1))) ∧ (FR .f32 s_.2.2.2 (sineTurnsV (val .f32 q0)))) ?_ ?_
                    · skip
                      rintro ⟨r4, r5, r6, r9⟩ wn ⟨f_B, f_F, f_G, f_R, f_T, f_q, f_r4, f_r5, f_r6, f_r9⟩
                      replace f_B : Below w.heap.size w wn := f_B
                      replace f_F : BoxAt wn (w.heap.size) 27 (.slice none 0 0) (.slice none 0 0) := f_F
                      replace f_G : BoxAt wn g 27 u vt := f_G
                      replace f_R : Kd.R k42 42 wn w.heap.size (fun _ => True) u l := f_R
                      replace f_T : Kd.S (Kd.slice 2 (Kd.int .i64)) 56 wn w.heap.size (fun _ => True) vt (ringTn W (min (y * W + x) (H * W))) := f_T
                      replace f_q : FR .f32 q0 (bin .quo .f32 (val .f32 (floatOfInt .f32 xi)) (val .f32 (floatOfInt .f32 a0))) := f_q
                      replace f_r4 : FR .f32 r4 (bin .add .f32 (val .f32 q0) (val .f32 1048576000)) := f_r4
                      replace f_r5 : FR .f32 r5 (sineTurnsV (val .f32 r4)) := f_r5
                      replace f_r6 : FR .f32 r6 (bin .mul .f32 (val .f32 v0) (val .f32 r5)) := f_r6
                      replace f_r9 : FR .f32 r9 (sineTurnsV (val .f32 q0)) := f_r9
                      refine norm_ (a' := ?_) ?_ ?_
                      rotate_left
                      · simp only [putAll, Act.put, List.setIfInBounds_toArray, List.set_cons_zero, List.set_cons_succ]; rfl
                      refine two_ (i := 10) (j := 14) (Ni := (some 60)) (Nj := (some 64)) #[true, true, true, true, true, true, true, true, true, true, true, true, true, true, false, false, false, false, false, false] #[true, true, true, true, true, true, true, true, true, true, false, true, true, true, true, false, false, false, false, false] rfl rfl rfl rfl (by kernel_rfl) (by decide) (by decide) (fun K hK => ?_) (fun K hK => ?_) 
                      · skip
                        refine fbin_step (by rfl) rfl .mul 33 33 _ _ rfl (by decide) (v0) (r9) (by rfl) (by rfl) ?_
                        intro r10 n_ m_r10
                        obtain ⟨wz, hwz⟩ : ∃ W', W' = wn.drewN n_ := ⟨_, rfl⟩
                        rw [← hwz]
                        have hb : Below wn.heap.size wn wz := by rw [hwz]; exact pw_below_drewN (Below.refl _ _) _
                        clear hwz
                        have m_B := below_step f_B hb
                        have m_F := f_F.below hb
                        have m_G := f_G.below hb
                        have m_R := Kd.R_below f_R hb
                        have m_T := Kd.S_below f_T hb
                        have m_q := f_q
                        have m_r4 := f_r4
                        have m_r5 := f_r5
                        have m_r6 := f_r6
                        have m_r9 := f_r9
                        refine hK.out _ _ m_G.c0 (fun hHeld => ?_)
                        clear hK K
                        refine norm_ (a' := ?_) ?_ ?_
                        rotate_left
                        · show Act.put _ (some 60) _ = _
                          simp only [Act.put, List.setIfInBounds_toArray, List.set_cons_zero, List.set_cons_succ, i64_w, i32_w]
                          rfl
                        exact norm_ (by simp only [putAll, Act.put, List.setIfInBounds_toArray, List.set_cons_zero, List.set_cons_succ]) (hN_f4_c5_m6_c9_m10 (r4, r5, r6, r9, r10) _ ⟨m_B, m_F, m_G, m_R, m_T, m_q, m_r4, m_r5, m_r6, m_r9, m_r10⟩)
                      · skip
                        refine fbin_step (by rfl) rfl .mul 33 33 _ _ rfl (by decide) ((floatOfInt .f32 yi)) (v1) (by rfl) (by rfl) ?_
                        intro r14 n_ m_r14
                        obtain ⟨wz, hwz⟩ : ∃ W', W' = wn.drewN n_ := ⟨_, rfl⟩
                        rw [← hwz]
                        have hb : Below wn.heap.size wn wz := by rw [hwz]; exact pw_below_drewN (Below.refl _ _) _
                        clear hwz
                        have m_B := below_step f_B hb
                        have m_F := f_F.below hb
                        have m_G := f_G.below hb
                        have m_R := Kd.R_below f_R hb
                        have m_T := Kd.S_below f_T hb
                        have m_q := f_q
                        have m_r4 := f_r4
                        have m_r5 := f_r5
                        have m_r6 := f_r6
                        have m_r9 := f_r9
                        refine hK.out _ _ m_G.c0 (fun hHeld => ?_)
                        clear hK K
                        refine norm_ (a' := ?_) ?_ ?_
                        rotate_left
                        · show Act.put _ (some 64) _ = _
                          simp only [Act.put, List.setIfInBounds_toArray, List.set_cons_zero, List.set_cons_succ, i64_w, i32_w]
                          rfl
                        exact norm_ (by simp only [putAll, Act.put, List.setIfInBounds_toArray, List.set_cons_zero, List.set_cons_succ]) (hN_f4_c5_m6_c9_m14 (r4, r5, r6, r9, r14) _ ⟨m_B, m_F, m_G, m_R, m_T, m_q, m_r4, m_r5, m_r6, m_r9, m_r14⟩)
                    intro hN_f4_c5_m6_c9
                    refine join_ (σ := Nat × Nat × Nat × Nat) 7 #[true, true, true, true, true, true, true, true, true, false, false, true, true, true, true, false, false, false, false, false] (fun s_ => [(54, .float .f32 s_.1), (55, .float .f32 s_.2.1), (56, .float .f32 s_.2.2.1), (64, .float .f32 s_.2.2.2)]) (fun s_ w' => (Below w.heap.size w w') ∧ (BoxAt w' (w.heap.size) 27 (.slice none 0 0) (.slice none 0 0)) ∧ (BoxAt w' g 27 u vt) ∧ (Kd.R k42 42 w' w.heap.size (fun _ => True) u l) ∧ (Kd.S (Kd.slice 2 (Kd.int .i64)) 56 w' w.heap.size (fun _ => True) vt (ringTn W (min (y * W + x) (H * W)))) ∧ (FR .f32 q0 (bin .quo .f32 (val .f32 (floatOfInt .f32 xi)) (val .f32 (floatOfInt .f32 a0)))) ∧ (FR .f32 s_.1 (bin .add .f32 (val .f32 q0) (val .f32 1048576000))) ∧ (FR .f32 s_.2.1 (sineTurnsV (val .f32 s_.1))) ∧ (FR .f32 s_.2.2.1 (bin .mul .f32 (val .f32 v0) (val .f32 s_.2.1))) ∧ (FR .f32 s_.2.2.2 (bin .mul .f32 (val .f32 (floatOfInt .f32 yi)) (val .f32 v1)))) ?_ ?_
                    · skip
                      rintro ⟨r4, r5, r6, r14⟩ wn ⟨f_B, f_F, f_G, f_R, f_T, f_q, f_r4, f_r5, f_r6, f_r14⟩
                      replace f_B : Below w.heap.size w wn := f_B
                      replace f_F : BoxAt wn (w.heap.size) 27 (.slice none 0 0) (.slice none 0 0) := f_F
                      replace f_G : BoxAt wn g 27 u vt := f_G
                      replace f_R : Kd.R k42 42 wn w.heap.size (fun _ => True) u l := f_R
                      replace f_T : Kd.S (Kd.slice 2 (Kd.int .i64)) 56 wn w.heap.size (fun _ => True) vt (ringTn W (min (y * W + x) (H * W))) := f_T
                      replace f_q : FR .f32 q0 (bin .quo .f32 (val .f32 (floatOfInt .f32 xi)) (val .f32 (floatOfInt .f32 a0))) := f_q
                      replace f_r4 : FR .f32 r4 (bin .add .f32 (val .f32 q0) (val .f32 1048576000)) := f_r4
                      replace f_r5 : FR .f32 r5 (sineTurnsV (val .f32 r4)) := f_r5
                      replace f_r6 : FR .f32 r6 (bin .mul .f32 (val .f32 v0) (val .f32 r5)) := f_r6
                      replace f_r14 : FR .f32 r14 (bin .mul .f32 (val .f32 (floatOfInt .f32 yi)) (val .f32 v1)) := f_r14
                      refine norm_ (a' := ?_) ?_ ?_
                      rotate_left
                      · simp only [putAll, Act.put, List.setIfInBounds_toArray, List.set_cons_zero, List.set_cons_succ]; rfl
                      refine one_ (i := 9) (N := (some 59)) #[true, true, true, true, true, true, true, true, true, true, false, true, true, true, true, false, false, false, false, false] rfl rfl (by kernel_rfl) (by decide) (fun K hK => ?_)
                      refine goes_ Try.func60 (by kernel_rfl) rfl #[.float .f32 q0] (by rfl) rfl rfl (by (try simp only [List.map_toArray, List.map_cons, List.map_nil]); first | done | rfl) ?_
                      refine (impl_SineTurns q0 f_q.lt _).mono ?_
                      rintro E wz ⟨r9, rfl, m_r9, n_, hwz⟩
                      refine ⟨_, rfl, ?_⟩
                      have hb : Below wn.heap.size wn wz := by rw [hwz]; exact pw_below_drewN (Below.refl _ _) _
                      clear hwz
                      have m_B := below_step f_B hb
                      have m_F := f_F.below hb
                      have m_G := f_G.below hb
                      have m_R := Kd.R_below f_R hb
                      have m_T := Kd.S_below f_T hb
                      have m_q := f_q
                      have m_r4 := f_r4
                      have m_r5 := f_r5
                      have m_r6 := f_r6
                      have m_r14 := f_r14
                      refine hK.out _ _ m_G.c0 (fun hHeld => ?_)
                      clear hK K
                      refine norm_ (a' := ?_) ?_ ?_
                      rotate_left
                      · show Act.put _ (some 59) _ = _
                        simp only [Act.put, List.setIfInBounds_toArray, List.set_cons_zero, List.set_cons_succ, i64_w, i32_w]
                        rfl
                      exact norm_ (by simp only [putAll, Act.put, List.setIfInBounds_toArray, List.set_cons_zero, List.set_cons_succ]) (hN_f4_c5_m6_c9_m14 (r4, r5, r6, r9, r14) _ ⟨m_B, m_F, m_G, m_R, m_T, m_q, m_r4, m_r5, m_r6, m_r9, m_r14⟩)
                    intro hN_f4_c5_m6_m14
                    refine join_ (σ := Nat × Nat × Nat × Nat) 7 #[true, true, true, true, true, true, false, true, true, true, true, true, true, true, false, false, false, false, false, false] (fun s_ => [(54, .float .f32 s_.1), (55, .float .f32 s_.2.1), (59, .float .f32 s_.2.2.1), (60, .float .f32 s_.2.2.2)]) (fun s_ w' => (Below w.heap.size w w') ∧ (BoxAt w' (w.heap.size) 27 (.slice none 0 0) (.slice none 0 0)) ∧ (BoxAt w' g 27 u vt) ∧ (Kd.R k42 42 w' w.heap.size (fun _ => True) u l) ∧ (Kd.S (Kd.slice 2 (Kd.int .i64)) 56 w' w.heap.size (fun _ => True) vt (ringTn W (min (y * W + x) (H * W)))) ∧ (FR .f32 q0 (bin .quo .f32 (val .f32 (floatOfInt .f32 xi)) (val .f32 (floatOfInt .f32 a0)))) ∧ (FR .f32 s_.1 (bin .add .f32 (val .f32 q0) (val .f32 1048576000))) ∧ (FR .f32 s_.2.1 (sineTurnsV (val .f32 s_.1))) ∧ (FR .f32 s_.2.2.1 (sineTurnsV (val .f32 q0))) ∧ (FR .f32 s_.2.2.2 (bin .mul .f32 (val .f32 v0) (val .f32 s_.2.2.1)))) ?_ ?_
                    · skip
                      rintro ⟨r4, r5, r9, r10⟩ wn ⟨f_B, f_F, f_G, f_R, f_T, f_q, f_r4, f_r5, f_r9, f_r10⟩
                      replace f_B : Below w.heap.size w wn := f_B
                      replace f_F : BoxAt wn (w.heap.size) 27 (.slice none 0 0) (.slice none 0 0) := f_F
                      replace f_G : BoxAt wn g 27 u vt := f_G
                      replace f_R : Kd.R k42 42 wn w.heap.size (fun _ => True) u l := f_R
                      replace f_T : Kd.S (Kd.slice 2 (Kd.int .i64)) 56 wn w.heap.size (fun _ => True) vt (ringTn W (min (y * W + x) (H * W))) := f_T
                      replace f_q : FR .f32 q0 (bin .quo .f32 (val .f32 (floatOfInt .f32 xi)) (val .f32 (floatOfInt .f32 a0))) := f_q
                      replace f_r4 : FR .f32 r4 (bin .add .f32 (val .f32 q0) (val .f32 1048576000)) := f_r4
                      replace f_r5 : FR .f32 r5 (sineTurnsV (val .f32 r4)) := f_r5
                      replace f_r9 : FR .f32 r9 (sineTurnsV (val .f32 q0)) := f_r9
                      replace f_r10 : FR .f32 r10 (bin .mul .f32 (val .f32 v0) (val .f32 r9)) := f_r10
                      refine norm_ (a' := ?_) ?_ ?_
                      rotate_left
                      · simp only [putAll, Act.put, List.setIfInBounds_toArray, List.set_cons_zero, List.set_cons_succ]; rfl
                      refine two_ (i := 6) (j := 14) (Ni := (some 56)) (Nj := (some 64)) #[true, true, true, true, true, true, true, true, true, true, true, true, true, true, false, false, false, false, false, false] #[true, true, true, true, true, true, false, true, true, true, true, true, true, true, true, false, false, false, false, false] rfl rfl rfl rfl (by kernel_rfl) (by decide) (by decide) (fun K hK => ?_) (fun K hK => ?_) 
                      · skip
                        refine fbin_step (by rfl) rfl .mul 33 33 _ _ rfl (by decide) (v0) (r5) (by rfl) (by rfl) ?_
                        intro r6 n_ m_r6
                        obtain ⟨wz, hwz⟩ : ∃ W', W' = wn.drewN n_ := ⟨_, rfl⟩
                        rw [← hwz]
                        have hb : Below wn.heap.size wn wz := by rw [hwz]; exact pw_below_drewN (Below.refl _ _) _
                        clear hwz
                        have m_B := below_step f_B hb
                        have m_F := f_F.below hb
                        have m_G := f_G.below hb
                        have m_R := Kd.R_below f_R hb
                        have m_T := Kd.S_below f_T hb
                        have m_q := f_q
                        have m_r4 := f_r4
                        have m_r5 := f_r5
                        have m_r9 := f_r9
                        have m_r10 := f_r10
                        refine hK.out _ _ m_G.c0 (fun hHeld => ?_)
                        clear hK K
                        refine norm_ (a' := ?_) ?_ ?_
                        rotate_left
                        · show Act.put _ (some 56) _ = _
                          simp only [Act.put, List.setIfInBounds_toArray, List.set_cons_zero, List.set_cons_succ, i64_w, i32_w]
                          rfl
                        exact norm_ (by simp only [putAll, Act.put, List.setIfInBounds_toArray, List.set_cons_zero, List.set_cons_succ]) (hN_f4_c5_m6_c9_m10 (r4, r5, r6, r9, r10) _ ⟨m_B, m_F, m_G, m_R, m_T, m_q, m_r4, m_r5, m_r6, m_r9, m_r10⟩)
                      · skip
                        refine fbin_step (by rfl) rfl .mul 33 33 _ _ rfl (by decide) ((floatOfInt .f32 yi)) (v1) (by rfl) (by rfl) ?_
                        intro r14 n_ m_r14
                        obtain ⟨wz, hwz⟩ : ∃ W', W' = wn.drewN n_ := ⟨_, rfl⟩
                        rw [← hwz]
                        have hb : Below wn.heap.size wn wz := by rw [hwz]; exact pw_below_drewN (Below.refl _ _) _
                        clear hwz
                        have m_B := below_step f_B hb
                        have m_F := f_F.below hb
                        have m_G := f_G.below hb
                        have m_R := Kd.R_below f_R hb
                        have m_T := Kd.S_below f_T hb
                        have m_q := f_q
                        have m_r4 := f_r4
                        have m_r5 := f_r5
                        have m_r9 := f_r9
                        have m_r10 := f_r10
                        refine hK.out _ _ m_G.c0 (fun hHeld => ?_)
                        clear hK K
                        refine norm_ (a' := ?_) ?_ ?_
                        rotate_left
                        · show Act.put _ (some 64) _ = _
                          simp only [Act.put, List.setIfInBounds_toArray, List.set_cons_zero, List.set_cons_succ, i64_w, i32_w]
                          rfl
                        exact norm_ (by simp only [putAll, Act.put, List.setIfInBounds_toArray, List.set_cons_zero, List.set_cons_succ]) (hN_f4_c5_c9_m10_m14 (r4, r5, r9, r10, r14) _ ⟨m_B, m_F, m_G, m_R, m_T, m_q, m_r4, m_r5, m_r9, m_r10, m_r14⟩)
                    intro hN_f4_c5_c9_m10
                    refine join_ (σ := Nat × Nat × Nat × Nat) 7 #[true, true, true, true, true, true, false, true, true, true, false, true, true, true, true, false, false, false, false, false] (fun s_ => [(54, .float .f32 s_.1), (55, .float .f32 s_.2.1), (59, .float .f32 s_.2.2.1), (64, .float .f32 s_.2.2.2)]) (fun s_ w' => (Below w.heap.size w w') ∧ (BoxAt w' (w.heap.size) 27 (.slice none 0 0) (.slice none 0 0)) ∧ (BoxAt w' g 27 u vt) ∧ (Kd.R k42 42 w' w.heap.size (fun _ => True) u l) ∧ (Kd.S (Kd.slice 2 (Kd.int .i64)) 56 w' w.heap.size (fun _ => True) vt (ringTn W (min (y * W + x) (H * W)))) ∧ (FR .f32 q0 (bin .quo .f32 (val .f32 (floatOfInt .f32 xi)) (val .f32 (floatOfInt .f32 a0)))) ∧ (FR .f32 s_.1 (bin .add .f32 (val .f32 q0) (val .f32 1048576000))) ∧ (FR .f32 s_.2.1 (sineTurnsV (val .f32 s_.1))) ∧ (FR .f32 s_.2.2.1 (sineTurnsV (val .f32 q0))) ∧ (FR .f32 s_.2.2.2 (bin .mul .f32 (val .f32 (floatOfInt .f32 yi)) (val .f32 v1)))) ?_ ?_
                    · skip
                      rintro ⟨r4, r5, r9, r14⟩ wn ⟨f_B, f_F, f_G, f_R, f_T, f_q, f_r4, f_r5, f_r9, f_r14⟩
                      replace f_B : Below w.heap.size w wn := f_B
                      replace f_F : BoxAt wn (w.heap.size) 27 (.slice none 0 0) (.slice none 0 0) := f_F
                      replace f_G : BoxAt wn g 27 u vt := f_G
                      replace f_R : Kd.R k42 42 wn w.heap.size (fun _ => True) u l := f_R
                      replace f_T : Kd.S (Kd.slice 2 (Kd.int .i64)) 56 wn w.heap.size (fun _ => True) vt (ringTn W (min (y * W + x) (H * W))) := f_T
                      replace f_q : FR .f32 q0 (bin .quo .f32 (val .f32 (floatOfInt .f32 xi)) (val .f32 (floatOfInt .f32 a0))) := f_q
                      replace f_r4 : FR .f32 r4 (bin .add .f32 (val .f32 q0) (val .f32 1048576000)) := f_r4
                      replace f_r5 : FR .f32 r5 (sineTurnsV (val .f32 r4)) := f_r5
                      replace f_r9 : FR .f32 r9 (sineTurnsV (val .f32 q0)) := f_r9
                      replace f_r14 : FR .f32 r14 (bin .mul .f32 (val .f32 (floatOfInt .f32 yi)) (val .f32 v1)) := f_r14
                      refine norm_ (a' := ?_) ?_ ?_
                      rotate_left
                      · simp only [putAll, Act.put, List.setIfInBounds_toArray, List.set_cons_zero, List.set_cons_succ]; rfl
                      refine two_ (i := 6) (j := 10) (Ni := (some 56)) (Nj := (some 60)) #[true, true, true, true, true, true, true, true, true, true, false, true, true, true, true, false, false, false, false, false] #[true, true, true, true, true, true, false, true, true, true, true, true, true, true, true, false, false, false, false, false] rfl rfl rfl rfl (by kernel_rfl) (by decide) (by decide) (fun K hK => ?_) (fun K hK => ?_) 
                      · skip
                        refine fbin_step (by rfl) rfl .mul 33 33 _ _ rfl (by decide) (v0) (r5) (by rfl) (by rfl) ?_
                        intro r6 n_ m_r6
                        obtain ⟨wz, hwz⟩ : ∃ W', W' = wn.drewN n_ := ⟨_, rfl⟩
                        rw [← hwz]
                        have hb : Below wn.heap.size wn wz := by rw [hwz]; exact pw_below_drewN (Below.refl _ _) _
                        clear hwz
                        have m_B := below_step f_B hb
                        have m_F := f_F.below hb
                        have m_G := f_G.below hb
                        have m_R := Kd.R_below f_R hb
                        have m_T := Kd.S_below f_T hb
                        have m_q := f_q
                        have m_r4 := f_r4
                        have m_r5 := f_r5
                        have m_r9 := f_r9
                        have m_r14 := f_r14
                        refine hK.out _ _ m_G.c0 (fun hHeld => ?_)
                        clear hK K
                        refine norm_ (a' := ?_) ?_ ?_
                        rotate_left
                        · show Act.put _ (some 56) _ = _
                          simp only [Act.put, List.setIfInBounds_toArray, List.set_cons_zero, List.set_cons_succ, i64_w, i32_w]
                          rfl
                        exact norm_ (by simp only [putAll, Act.put, List.setIfInBounds_toArray, List.set_cons_zero, List.set_cons_succ]) (hN_f4_c5_m6_c9_m14 (r4, r5, r6, r9, r14) _ ⟨m_B, m_F, m_G, m_R, m_T, m_q, m_r4, m_r5, m_r6, m_r9, m_r14⟩)
                      · skip
                        refine fbin_step (by rfl) rfl .mul 33 33 _ _ rfl (by decide) (v0) (r9) (by rfl) (by rfl) ?_
                        intro r10 n_ m_r10
                        obtain ⟨wz, hwz⟩ : ∃ W', W' = wn.drewN n_ := ⟨_, rfl⟩
                        rw [← hwz]
                        have hb : Below wn.heap.size wn wz := by rw [hwz]; exact pw_below_drewN (Below.refl _ _) _
                        clear hwz
                        have m_B := below_step f_B hb
                        have m_F := f_F.below hb
                        have m_G := f_G.below hb
                        have m_R := Kd.R_below f_R hb
                        have m_T := Kd.S_below f_T hb
                        have m_q := f_q
                        have m_r4 := f_r4
                        have m_r5 := f_r5
                        have m_r9 := f_r9
                        have m_r14 := f_r14
                        refine hK.out _ _ m_G.c0 (fun hHeld => ?_)
                        clear hK K
                        refine norm_ (a' := ?_) ?_ ?_
                        rotate_left
                        · show Act.put _ (some 60) _ = _
                          simp only [Act.put, List.setIfInBounds_toArray, List.set_cons_zero, List.set_cons_succ, i64_w, i32_w]
                          rfl
                        exact norm_ (by simp only [putAll, Act.put, List.setIfInBounds_toArray, List.set_cons_zero, List.set_cons_succ]) (hN_f4_c5_c9_m10_m14 (r4, r5, r9, r10, r14) _ ⟨m_B, m_F, m_G, m_R, m_T, m_q, m_r4, m_r5, m_r9, m_r10, m_r14⟩)
                    intro hN_f4_c5_c9_m14
                    refine join_ (σ := Nat × Nat × Nat) 8 #[true, true, true, true, true, true, true, true, true, false, false, true, true, true, false, false, false, false, false, false] (fun s_ => [(54, .float .f32 s_.1), (55, .float .f32 s_.2.1), (56, .float .f32 s_.2.2)]) (fun s_ w' => (Below w.heap.size w w') ∧ (BoxAt w' (w.heap.size) 27 (.slice none 0 0) (.slice none 0 0)) ∧ (BoxAt w' g 27 u vt) ∧ (Kd.R k42 42 w' w.heap.size (fun _ => True) u l) ∧ (Kd.S (Kd.slice 2 (Kd.int .i64)) 56 w' w.heap.size (fun _ => True) vt (ringTn W (min (y * W + x) (H * W)))) ∧ (FR .f32 q0 (bin .quo .f32 (val .f32 (floatOfInt .f32 xi)) (val .f32 (floatOfInt .f32 a0)))) ∧ (FR .f32 s_.1 (bin .add .f32 (val .f32 q0) (val .f32 1048576000))) ∧ (FR .f32 s_.2.1 (sineTurnsV (val .f32 s_.1))) ∧ (FR .f32 s_.2.2 (bin .mul .f32 (val .f32 v0) (val .f32 s_.2.1)))) ?_ ?_
                    · skip
                      rintro ⟨r4, r5, r6⟩ wn ⟨f_B, f_F, f_G, f_R, f_T, f_q, f_r4, f_r5, f_r6⟩
                      replace f_B : Below w.heap.size w wn := f_B
                      replace f_F : BoxAt wn (w.heap.size) 27 (.slice none 0 0) (.slice none 0 0) := f_F
                      replace f_G : BoxAt wn g 27 u vt := f_G
                      replace f_R : Kd.R k42 42 wn w.heap.size (fun _ => True) u l := f_R
                      replace f_T : Kd.S (Kd.slice 2 (Kd.int .i64)) 56 wn w.heap.size (fun _ => True) vt (ringTn W (min (y * W + x) (H * W))) := f_T
                      replace f_q : FR .f32 q0 (bin .quo .f32 (val .f32 (floatOfInt .f32 xi)) (val .f32 (floatOfInt .f32 a0))) := f_q
                      replace f_r4 : FR .f32 r4 (bin .add .f32 (val .f32 q0) (val .f32 1048576000)) := f_r4
                      replace f_r5 : FR .f32 r5 (sineTurnsV (val .f32 r4)) := f_r5
                      replace f_r6 : FR .f32 r6 (bin .mul .f32 (val .f32 v0) (val .f32 r5)) := f_r6
                      refine norm_ (a' := ?_) ?_ ?_
                      rotate_left
                      · simp only [putAll, Act.put, List.setIfInBounds_toArray, List.set_cons_zero, List.set_cons_succ]; rfl
                      refine two_ (i := 9) (j := 14) (Ni := (some 59)) (Nj := (some 64)) #[true, true, true, true, true, true, true, true, true, true, false, true, true, true, false, false, false, false, false, false] #[true, true, true, true, true, true, true, true, true, false, false, true, true, true, true, false, false, false, false, false] rfl rfl rfl rfl (by kernel_rfl) (by decide) (by decide) (fun K hK => ?_) (fun K hK => ?_) 
                      · skip
                        refine goes_ Try.func60 (by kernel_rfl) rfl #[.float .f32 q0] (by rfl) rfl rfl (by (try simp only [List.map_toArray, List.map_cons, List.map_nil]); first | done | rfl) ?_
                        refine (impl_SineTurns q0 f_q.lt _).mono ?_
                        rintro E wz ⟨r9, rfl, m_r9, n_, hwz⟩
                        refine ⟨_, rfl, ?_⟩
                        have hb : Below wn.heap.size wn wz := by rw [hwz]; exact pw_below_drewN (Below.refl _ _) _
                        clear hwz
                        have m_B := below_step f_B hb
                        have m_F := f_F.below hb
                        have m_G := f_G.below hb
                        have m_R := Kd.R_below f_R hb
                        have m_T := Kd.S_below f_T hb
                        have m_q := f_q
                        have m_r4 := f_r4
                        have m_r5 := f_r5
                        have m_r6 := f_r6
                        refine hK.out _ _ m_G.c0 (fun hHeld => ?_)
                        clear hK K
                        refine norm_ (a' := ?_) ?_ ?_
                        rotate_left
                        · show Act.put _ (some 59) _ = _
                          simp only [Act.put, List.setIfInBounds_toArray, List.set_cons_zero, List.set_cons_succ, i64_w, i32_w]
                          rfl
                        exact norm_ (by simp only [putAll, Act.put, List.setIfInBounds_toArray, List.set_cons_zero, List.set_cons_succ]) (hN_f4_c5_m6_c9 (r4, r5, r6, r9) _ ⟨m_B, m_F, m_G, m_R, m_T, m_q, m_r4, m_r5, m_r6, m_r9⟩)
                      · skip
                        refine fbin_step (by rfl) rfl .mul 33 33 _ _ rfl (by decide) ((floatOfInt .f32 yi)) (v1) (by rfl) (by rfl) ?_
                        intro r14 n_ m_r14
                        obtain ⟨wz, hwz⟩ : ∃ W', W' = wn.drewN n_ := ⟨_, rfl⟩
                        rw [← hwz]
                        have hb : Below wn.heap.size wn wz := by rw [hwz]; exact pw_below_drewN (Below.refl _ _) _
                        clear hwz
                        have m_B := below_step f_B hb
                        have m_F := f_F.below hb
                        have m_G := f_G.below hb
                        have m_R := Kd.R_below f_R hb
                        have m_T := Kd.S_below f_T hb
                        have m_q := f_q
                        have m_r4 := f_r4
                        have m_r5 := f_r5
                        have m_r6 := f_r6
                        refine hK.out _ _ m_G.c0 (fun hHeld => ?_)
                        clear hK K
                        refine norm_ (a' := ?_) ?_ ?_
                        rotate_left
                        · show Act.put _ (some 64) _ = _
                          simp only [Act.put, List.setIfInBounds_toArray, List.set_cons_zero, List.set_cons_succ, i64_w, i32_w]
                          rfl
                        exact norm_ (by simp only [putAll, Act.put, List.setIfInBounds_toArray, List.set_cons_zero, List.set_cons_succ]) (hN_f4_c5_m6_m14 (r4, r5, r6, r14) _ ⟨m_B, m_F, m_G, m_R, m_T, m_q, m_r4, m_r5, m_r6, m_r14⟩)
                    intro hN_f4_c5_m6
                    refine join_ (σ := Nat × Nat × Nat) 8 #[true, true, true, true, true, true, false, true, true, true, false, true, true, true, false, false, false, false, false, false] (fun s_ => [(54, .float .f32 s_.1), (55, .float .f32 s_.2.1), (59, .float .f32 s_.2.2)]) (fun s_ w' => (Below w.heap.size w w') ∧ (BoxAt w' (w.heap.size) 27 (.slice none 0 0) (.slice none 0 0)) ∧ (BoxAt w' g 27 u vt) ∧ (Kd.R k42 42 w' w.heap.size (fun _ => True) u l) ∧ (Kd.S (Kd.slice 2 (Kd.int .i64)) 56 w' w.heap.size (fun _ => True) vt (ringTn W (min (y * W + x) (H * W)))) ∧ (FR .f32 q0 (bin .quo .f32 (val .f32 (floatOfInt .f32 xi)) (val .f32 (floatOfInt .f32 a0)))) ∧ (FR .f32 s_.1 (bin .add .f32 (val .f32 q0) (val .f32 1048576000))) ∧ (FR .f32 s_.2.1 (sineTurnsV (val .f32 s_.1))) ∧ (FR .f32 s_.2.2 (sineTurnsV (val .f32 q0)))) ?_ ?_
                    · skip
                      rintro ⟨r4, r5, r9⟩ wn ⟨f_B, f_F, f_G, f_R, f_T, f_q, f_r4, f_r5, f_r9⟩
                      replace f_B : Below w.heap.size w wn := f_B
                      replace f_F : BoxAt wn (w.heap.size) 27 (.slice none 0 0) (.slice none 0 0) := f_F
                      replace f_G : BoxAt wn g 27 u vt := f_G
                      replace f_R : Kd.R k42 42 wn w.heap.size (fun _ => True) u l := f_R
                      replace f_T : Kd.S (Kd.slice 2 (Kd.int .i64)) 56 wn w.heap.size (fun _ => True) vt (ringTn W (min (y * W + x) (H * W))) := f_T
                      replace f_q : FR .f32 q0 (bin .quo .f32 (val .f32 (floatOfInt .f32 xi)) (val .f32 (floatOfInt .f32 a0))) := f_q
                      replace f_r4 : FR .f32 r4 (bin .add .f32 (val .f32 q0) (val .f32 1048576000)) := f_r4
                      replace f_r5 : FR .f32 r5 (sineTurnsV (val .f32 r4)) := f_r5
                      replace f_r9 : FR .f32 r9 (sineTurnsV (val .f32 q0)) := f_r9
                      refine norm_ (a' := ?_) ?_ ?_
                      rotate_left
                      · simp only [putAll, Act.put, List.setIfInBounds_toArray, List.set_cons_zero, List.set_cons_succ]; rfl
                      refine three_ (i := 6) (j := 10) (k := 14) (Ni := (some 56)) (Nj := (some 60)) (Nk := (some 64)) #[true, true, true, true, true, true, true, true, true, true, false, true, true, true, false, false, false, false, false, false] #[true, true, true, true, true, true, false, true, true, true, true, true, true, true, false, false, false, false, false, false] #[true, true, true, true, true, true, false, true, true, true, false, true, true, true, true, false, false, false, false, false] rfl rfl rfl rfl rfl rfl (by kernel_rfl) (by decide) (by decide) (by decide) (fun K hK => ?_) (fun K hK => ?_) (fun K hK => ?_) 
                      · skip
                        refine fbin_step (by rfl) rfl .mul 33 33 _ _ rfl (by decide) (v0) (r5) (by rfl) (by rfl) ?_
                        intro r6 n_ m_r6
                        obtain ⟨wz, hwz⟩ : ∃ W', W' = wn.drewN n_ := ⟨_, rfl⟩
                        rw [← hwz]
                        have hb : Below wn.heap.size wn wz := by rw [hwz]; exact pw_below_drewN (Below.refl _ _) _
                        clear hwz
                        have m_B := below_step f_B hb
                        have m_F := f_F.below hb
                        have m_G := f_G.below hb
                        have m_R := Kd.R_below f_R hb
                        have m_T := Kd.S_below f_T hb
                        have m_q := f_q
                        have m_r4 := f_r4
                        have m_r5 := f_r5
                        have m_r9 := f_r9
                        refine hK.out _ _ m_G.c0 (fun hHeld => ?_)
                        clear hK K
                        refine norm_ (a' := ?_) ?_ ?_
                        rotate_left
                        · show Act.put _ (some 56) _ = _
                          simp only [Act.put, List.setIfInBounds_toArray, List.set_cons_zero, List.set_cons_succ, i64_w, i32_w]
                          rfl
                        exact norm_ (by simp only [putAll, Act.put, List.setIfInBounds_toArray, List.set_cons_zero, List.set_cons_succ]) (hN_f4_c5_m6_c9 (r4, r5, r6, r9) _ ⟨m_B, m_F, m_G, m_R, m_T, m_q, m_r4, m_r5, m_r6, m_r9⟩)
                      · skip
                        refine fbin_step (by rfl) rfl .mul 33 33 _ _ rfl (by decide) (v0) (r9) (by rfl) (by rfl) ?_
                        intro r10 n_ m_r10
                        obtain ⟨wz, hwz⟩ : ∃ W', W' = wn.drewN n_ := ⟨_, rfl⟩
                        rw [← hwz]
                        have hb : Below wn.heap.size wn wz := by rw [hwz]; exact pw_below_drewN (Below.refl _ _) _
                        clear hwz
                        have m_B := below_step f_B hb
                        have m_F := f_F.below hb
                        have m_G := f_G.below hb
                        have m_R := Kd.R_below f_R hb
                        have m_T := Kd.S_below f_T hb
                        have m_q := f_q
                        have m_r4 := f_r4
                        have m_r5 := f_r5
                        have m_r9 := f_r9
                        refine hK.out _ _ m_G.c0 (fun hHeld => ?_)
                        clear hK K
                        refine norm_ (a' := ?_) ?_ ?_
                        rotate_left
                        · show Act.put _ (some 60) _ = _
                          simp only [Act.put, List.setIfInBounds_toArray, List.set_cons_zero, List.set_cons_succ, i64_w, i32_w]
                          rfl
                        exact norm_ (by simp only [putAll, Act.put, List.setIfInBounds_toArray, List.set_cons_zero, List.set_cons_succ]) (hN_f4_c5_c9_m10 (r4, r5, r9, r10) _ ⟨m_B, m_F, m_G, m_R, m_T, m_q, m_r4, m_r5, m_r9, m_r10⟩)
                      · skip
                        refine fbin_step (by rfl) rfl .mul 33 33 _ _ rfl (by decide) ((floatOfInt .f32 yi)) (v1) (by rfl) (by rfl) ?_
                        intro r14 n_ m_r14
                        obtain ⟨wz, hwz⟩ : ∃ W', W' = wn.drewN n_ := ⟨_, rfl⟩
                        rw [← hwz]
                        have hb : Below wn.heap.size wn wz := by rw [hwz]; exact pw_below_drewN (Below.refl _ _) _
                        clear hwz
                        have m_B := below_step f_B hb
                        have m_F := f_F.below hb
                        have m_G := f_G.below hb
                        have m_R := Kd.R_below f_R hb
                        have m_T := Kd.S_below f_T hb
                        have m_q := f_q
                        have m_r4 := f_r4
                        have m_r5 := f_r5
                        have m_r9 := f_r9
                        refine hK.out _ _ m_G.c0 (fun hHeld => ?_)
                        clear hK K
                        refine norm_ (a' := ?_) ?_ ?_
                        rotate_left
                        · show Act.put _ (some 64) _ = _
                          simp only [Act.put, List.setIfInBounds_toArray, List.set_cons_zero, List.set_cons_succ, i64_w, i32_w]
                          rfl
                        exact norm_ (by simp only [putAll, Act.put, List.setIfInBounds_toArray, List.set_cons_zero, List.set_cons_succ]) (hN_f4_c5_c9_m14 (r4, r5, r9, r14) _ ⟨m_B, m_F, m_G, m_R, m_T, m_q, m_r4, m_r5, m_r9, m_r14⟩)
                    intro hN_f4_c5_c9
                    refine join_ (σ := Nat × Nat × Nat) 8 #[true, true, true, true, true, true, false, true, true, false, false, true, true, true, true, false, false, false, false, false] (fun s_ => [(54, .float .f32 s_.1), (55, .float .f32 s_.2.1), (64, .float .f32 s_.2.2)]) (fun s_ w' => (Below w.heap.size w w') ∧ (BoxAt w' (w.heap.size) 27 (.slice none 0 0) (.slice none 0 0)) ∧ (BoxAt w' g 27 u vt) ∧ (Kd.R k42 42 w' w.heap.size (fun _ => True) u l) ∧ (Kd.S (Kd.slice 2 (Kd.int .i64)) 56 w' w.heap.size (fun _ => True) vt (ringTn W (min (y * W + x) (H * W)))) ∧ (FR .f32 q0 (bin .quo .f32 (val .f32 (floatOfInt .f32 xi)) (val .f32 (floatOfInt .f32 a0)))) ∧ (FR .f32 s_.1 (bin .add .f32 (val .f32 q0) (val .f32 1048576000))) ∧ (FR .f32 s_.2.1 (sineTurnsV (val .f32 s_.1))) ∧ (FR .f32 s_.2.2 (bin .mul .f32 (val .f32 (floatOfInt .f32 yi)) (val .f32 v1)))) ?_ ?_
                    · skip
                      rintro ⟨r4, r5, r14⟩ wn ⟨f_B, f_F, f_G, f_R, f_T, f_q, f_r4, f_r5, f_r14⟩
                      replace f_B : Below w.heap.size w wn := f_B
                      replace f_F : BoxAt wn (w.heap.size) 27 (.slice none 0 0) (.slice none 0 0) := f_F
                      replace f_G : BoxAt wn g 27 u vt := f_G
                      replace f_R : Kd.R k42 42 wn w.heap.size (fun _ => True) u l := f_R
                      replace f_T : Kd.S (Kd.slice 2 (Kd.int .i64)) 56 wn w.heap.size (fun _ => True) vt (ringTn W (min (y * W + x) (H * W))) := f_T
                      replace f_q : FR .f32 q0 (bin .quo .f32 (val .f32 (floatOfInt .f32 xi)) (val .f32 (floatOfInt .f32 a0))) := f_q
                      replace f_r4 : FR .f32 r4 (bin .add .f32 (val .f32 q0) (val .f32 1048576000)) := f_r4
                      replace f_r5 : FR .f32 r5 (sineTurnsV (val .f32 r4)) := f_r5
                      replace f_r14 : FR .f32 r14 (bin .mul .f32 (val .f32 (floatOfInt .f32 yi)) (val .f32 v1)) := f_r14
                      refine norm_ (a' := ?_) ?_ ?_
                      rotate_left
                      · simp only [putAll, Act.put, List.setIfInBounds_toArray, List.set_cons_zero, List.set_cons_succ]; rfl
                      refine two_ (i := 6) (j := 9) (Ni := (some 56)) (Nj := (some 59)) #[true, true, true, true, true, true, true, true, true, false, false, true, true, true, true, false, false, false, false, false] #[true, true, true, true, true, true, false, true, true, true, false, true, true, true, true, false, false, false, false, false] rfl rfl rfl rfl (by kernel_rfl) (by decide) (by decide) (fun K hK => ?_) (fun K hK => ?_) 
                      · skip
                        refine fbin_step (by rfl) rfl .mul 33 33 _ _ rfl (by decide) (v0) (r5) (by rfl) (by rfl) ?_
                        intro r6 n_ m_r6
                        obtain ⟨wz, hwz⟩ : ∃ W', W' = wn.drewN n_ := ⟨_, rfl⟩
                        rw [← hwz]
                        have hb : Below wn.heap.size wn wz := by rw [hwz]; exact pw_below_drewN (Below.refl _ _) _
                        clear hwz
                        have m_B := below_step f_B hb
                        have m_F := f_F.below hb
                        have m_G := f_G.below hb
                        have m_R := Kd.R_below f_R hb
                        have m_T := Kd.S_below f_T hb
                        have m_q := f_q
                        have m_r4 := f_r4
                        have m_r5 := f_r5
                        have m_r14 := f_r14
                        refine hK.out _ _ m_G.c0 (fun hHeld => ?_)
                        clear hK K
                        refine norm_ (a' := ?_) ?_ ?_
                        rotate_left
                        · show Act.put _ (some 56) _ = _
                          simp only [Act.put, List.setIfInBounds_toArray, List.set_cons_zero, List.set_cons_succ, i64_w, i32_w]
                          rfl
                        exact norm_ (by simp only [putAll, Act.put, List.setIfInBounds_toArray, List.set_cons_zero, List.set_cons_succ]) (hN_f4_c5_m6_m14 (r4, r5, r6, r14) _ ⟨m_B, m_F, m_G, m_R, m_T, m_q, m_r4, m_r5, m_r6, m_r14⟩)
                      · skip
                        refine goes_ Try.func60 (by kernel_rfl) rfl #[.float .f32 q0] (by rfl) rfl rfl (by (try simp only [List.map_toArray, List.map_cons, List.map_nil]); first | done | rfl) ?_
                        refine (impl_SineTurns q0 f_q.lt _).mono ?_
                        rintro E wz ⟨r9, rfl, m_r9, n_, hwz⟩
                        refine ⟨_, rfl, ?_⟩
                        have hb : Below wn.heap.size wn wz := by rw [hwz]; exact pw_below_drewN (Below.refl _ _) _
                        clear hwz
                        have m_B := below_step f_B hb
                        have m_F := f_F.below hb
                        have m_G := f_G.below hb
                        have m_R := Kd.R_below f_R hb
                        have m_T := Kd.S_below f_T hb
                        have m_q := f_q
                        have m_r4 := f_r4
                        have m_r5 := f_r5
                        have m_r14 := f_r14
                        refine hK.out _ _ m_G.c0 (fun hHeld => ?_)
                        clear hK K
                        refine norm_ (a' := ?_) ?_ ?_
                        rotate_left
                        · show Act.put _ (some 59) _ = _
                          simp only [Act.put, List.setIfInBounds_toArray, List.set_cons_zero, List.set_cons_succ, i64_w, i32_w]
                          rfl
                        exact norm_ (by simp only [putAll, Act.put, List.setIfInBounds_toArray, List.set_cons_zero, List.set_cons_succ]) (hN_f4_c5_c9_m14 (r4, r5, r9, r14) _ ⟨m_B, m_F, m_G, m_R, m_T, m_q, m_r4, m_r5, m_r9, m_r14⟩)
                    intro hN_f4_c5_m14
                    refine join_ (σ := Nat × Nat) 9 #[true, true, true, true, true, true, false, true, true, false, false, true, true, true, false, false, false, false, false, false] (fun s_ => [(54, .float .f32 s_.1), (55, .float .f32 s_.2)]) (fun s_ w' => (Below w.heap.size w w') ∧ (BoxAt w' (w.heap.size) 27 (.slice none 0 0) (.slice none 0 0)) ∧ (BoxAt w' g 27 u vt) ∧ (Kd.R k42 42 w' w.heap.size (fun _ => True) u l) ∧ (Kd.S (Kd.slice 2 (Kd.int .i64)) 56 w' w.heap.size (fun _ => True) vt (ringTn W (min (y * W + x) (H * W)))) ∧ (FR .f32 q0 (bin .quo .f32 (val .f32 (floatOfInt .f32 xi)) (val .f32 (floatOfInt .f32 a0)))) ∧ (FR .f32 s_.1 (bin .add .f32 (val .f32 q0) (val .f32 1048576000))) ∧ (FR .f32 s_.2 (sineTurnsV (val .f32 s_.1)))) ?_ ?_
                    · skip
                      rintro ⟨r4, r5⟩ wn ⟨f_B, f_F, f_G, f_R, f_T, f_q, f_r4, f_r5⟩
                      replace f_B : Below w.heap.size w wn := f_B
                      replace f_F : BoxAt wn (w.heap.size) 27 (.slice none 0 0) (.slice none 0 0) := f_F
                      replace f_G : BoxAt wn g 27 u vt := f_G
                      replace f_R : Kd.R k42 42 wn w.heap.size (fun _ => True) u l := f_R
                      replace f_T : Kd.S (Kd.slice 2 (Kd.int .i64)) 56 wn w.heap.size (fun _ => True) vt (ringTn W (min (y * W + x) (H * W))) := f_T
                      replace f_q : FR .f32 q0 (bin .quo .f32 (val .f32 (floatOfInt .f32 xi)) (val .f32 (floatOfInt .f32 a0))) := f_q
                      replace f_r4 : FR .f32 r4 (bin .add .f32 (val .f32 q0) (val .f32 1048576000)) := f_r4
                      replace f_r5 : FR .f32 r5 (sineTurnsV (val .f32 r4)) := f_r5
                      refine norm_ (a' := ?_) ?_ ?_
                      rotate_left
                      · simp only [putAll, Act.put, List.setIfInBounds_toArray, List.set_cons_zero, List.set_cons_succ]; rfl
                      refine three_ (i := 6) (j := 9) (k := 14) (Ni := (some 56)) (Nj := (some 59)) (Nk := (some 64)) #[true, true, true, true, true, true, true, true, true, false, false, true, true, true, false, false, false, false, false, false] #[true, true, true, true, true, true, false, true, true, true, false, true, true, true, false, false, false, false, false, false] #[true, true, true, true, true, true, false, true, true, false, false, true, true, true, true, false, false, false, false, false] rfl rfl rfl rfl rfl rfl (by kernel_rfl) (by decide) (by decide) (by decide) (fun K hK => ?_) (fun K hK => ?_) (fun K hK => ?_) 
                      · skip
                        refine fbin_step (by rfl) rfl .mul 33 33 _ _ rfl (by decide) (v0) (r5) (by rfl) (by rfl) ?_
                        intro r6 n_ m_r6
                        obtain ⟨wz, hwz⟩ : ∃ W', W' = wn.drewN n_ := ⟨_, rfl⟩
                        rw [← hwz]
                        have hb : Below wn.heap.size wn wz := by rw [hwz]; exact pw_below_drewN (Below.refl _ _) _
                        clear hwz
                        have m_B := below_step f_B hb
                        have m_F := f_F.below hb
                        have m_G := f_G.below hb
                        have m_R := Kd.R_below f_R hb
                        have m_T := Kd.S_below f_T hb
                        have m_q := f_q
                        have m_r4 := f_r4
                        have m_r5 := f_r5
                        refine hK.out _ _ m_G.c0 (fun hHeld => ?_)
                        clear hK K
                        refine norm_ (a' := ?_) ?_ ?_
                        rotate_left
                        · show Act.put _ (some 56) _ = _
                          simp only [Act.put, List.setIfInBounds_toArray, List.set_cons_zero, List.set_cons_succ, i64_w, i32_w]
                          rfl
                        exact norm_ (by simp only [putAll, Act.put, List.setIfInBounds_toArray, List.set_cons_zero, List.set_cons_succ]) (hN_f4_c5_m6 (r4, r5, r6) _ ⟨m_B, m_F, m_G, m_R, m_T, m_q, m_r4, m_r5, m_r6⟩)
                      · skip
                        refine goes_ Try.func60 (by kernel_rfl) rfl #[.float .f32 q0] (by rfl) rfl rfl (by (try simp only [List.map_toArray, List.map_cons, List.map_nil]); first | done | rfl) ?_
                        refine (impl_SineTurns q0 f_q.lt _).mono ?_
                        rintro E wz ⟨r9, rfl, m_r9, n_, hwz⟩
                        refine ⟨_, rfl, ?_⟩
                        have hb : Below wn.heap.size wn wz := by rw [hwz]; exact pw_below_drewN (Below.refl _ _) _
                        clear hwz
                        have m_B := below_step f_B hb
                        have m_F := f_F.below hb
                        have m_G := f_G.below hb
                        have m_R := Kd.R_below f_R hb
                        have m_T := Kd.S_below f_T hb
                        have m_q := f_q
                        have m_r4 := f_r4
                        have m_r5 := f_r5
                        refine hK.out _ _ m_G.c0 (fun hHeld => ?_)
                        clear hK K
                        refine norm_ (a' := ?_) ?_ ?_
                        rotate_left
                        · show Act.put _ (some 59) _ = _
                          simp only [Act.put, List.setIfInBounds_toArray, List.set_cons_zero, List.set_cons_succ, i64_w, i32_w]
                          rfl
                        exact norm_ (by simp only [putAll, Act.put, List.setIfInBounds_toArray, List.set_cons_zero, List.set_cons_succ]) (hN_f4_c5_c9 (r4, r5, r9) _ ⟨m_B, m_F, m_G, m_R, m_T, m_q, m_r4, m_r5, m_r9⟩)
                      · skip
                        refine fbin_step (by rfl) rfl .mul 33 33 _ _ rfl (by decide) ((floatOfInt .f32 yi)) (v1) (by rfl) (by rfl) ?_
                        intro r14 n_ m_r14
                        obtain ⟨wz, hwz⟩ : ∃ W', W' = wn.drewN n_ := ⟨_, rfl⟩
                        rw [← hwz]
                        have hb : Below wn.heap.size wn wz := by rw [hwz]; exact pw_below_drewN (Below.refl _ _) _
                        clear hwz
                        have m_B := below_step f_B hb
                        have m_F := f_F.below hb
                        have m_G := f_G.below hb
                        have m_R := Kd.R_below f_R hb
                        have m_T := Kd.S_below f_T hb
                        have m_q := f_q
                        have m_r4 := f_r4
                        have m_r5 := f_r5
                        refine hK.out _ _ m_G.c0 (fun hHeld => ?_)
                        clear hK K
                        refine norm_ (a' := ?_) ?_ ?_
                        rotate_left
                        · show Act.put _ (some 64) _ = _
                          simp only [Act.put, List.setIfInBounds_toArray, List.set_cons_zero, List.set_cons_succ, i64_w, i32_w]
                          rfl
                        exact norm_ (by simp only [putAll, Act.put, List.setIfInBounds_toArray, List.set_cons_zero, List.set_cons_succ]) (hN_f4_c5_m14 (r4, r5, r14) _ ⟨m_B, m_F, m_G, m_R, m_T, m_q, m_r4, m_r5, m_r14⟩)
                    intro hN_f4_c5
                    refine join_ (σ := Nat × Nat) 9 #[true, true, true, true, true, false, false, true, true, false, false, true, true, true, true, false, false, false, false, false] (fun s_ => [(54, .float .f32 s_.1), (64, .float .f32 s_.2)]) (fun s_ w' => (Below w.heap.size w w') ∧ (BoxAt w' (w.heap.size) 27 (.slice none 0 0) (.slice none 0 0)) ∧ (BoxAt w' g 27 u vt) ∧ (Kd.R k42 42 w' w.heap.size (fun _ => True) u l) ∧ (Kd.S (Kd.slice 2 (Kd.int .i64)) 56 w' w.heap.size (fun _ => True) vt (ringTn W (min (y * W + x) (H * W)))) ∧ (FR .f32 q0 (bin .quo .f32 (val .f32 (floatOfInt .f32 xi)) (val .f32 (floatOfInt .f32 a0)))) ∧ (FR .f32 s_.1 (bin .add .f32 (val .f32 q0) (val .f32 1048576000))) ∧ (FR .f32 s_.2 (bin .mul .f32 (val .f32 (floatOfInt .f32 yi)) (val .f32 v1)))) ?_ ?_
                    · skip
                      rintro ⟨r4, r14⟩ wn ⟨f_B, f_F, f_G, f_R, f_T, f_q, f_r4, f_r14⟩
                      replace f_B : Below w.heap.size w wn := f_B
                      replace f_F : BoxAt wn (w.heap.size) 27 (.slice none 0 0) (.slice none 0 0) := f_F
                      replace f_G : BoxAt wn g 27 u vt := f_G
                      replace f_R : Kd.R k42 42 wn w.heap.size (fun _ => True) u l := f_R
                      replace f_T : Kd.S (Kd.slice 2 (Kd.int .i64)) 56 wn w.heap.size (fun _ => True) vt (ringTn W (min (y * W + x) (H * W))) := f_T
                      replace f_q : FR .f32 q0 (bin .quo .f32 (val .f32 (floatOfInt .f32 xi)) (val .f32 (floatOfInt .f32 a0))) := f_q
                      replace f_r4 : FR .f32 r4 (bin .add .f32 (val .f32 q0) (val .f32 1048576000)) := f_r4
                      replace f_r14 : FR .f32 r14 (bin .mul .f32 (val .f32 (floatOfInt .f32 yi)) (val .f32 v1)) := f_r14
                      refine norm_ (a' := ?_) ?_ ?_
                      rotate_left
                      · simp only [putAll, Act.put, List.setIfInBounds_toArray, List.set_cons_zero, List.set_cons_succ]; rfl
                      refine one_ (i := 5) (N := (some 55)) #[true, true, true, true, true, true, false, true, true, false, false, true, true, true, true, false, false, false, false, false] rfl rfl (by kernel_rfl) (by decide) (fun K hK => ?_)
                      refine goes_ Try.func60 (by kernel_rfl) rfl #[.float .f32 r4] (by rfl) rfl rfl (by (try simp only [List.map_toArray, List.map_cons, List.map_nil]); first | done | rfl) ?_
                      refine (impl_SineTurns r4 f_r4.lt _).mono ?_
                      rintro E wz ⟨r5, rfl, m_r5, n_, hwz⟩
                      refine ⟨_, rfl, ?_⟩
                      have hb : Below wn.heap.size wn wz := by rw [hwz]; exact pw_below_drewN (Below.refl _ _) _
                      clear hwz
                      have m_B := below_step f_B hb
                      have m_F := f_F.below hb
                      have m_G := f_G.below hb
                      have m_R := Kd.R_below f_R hb
                      have m_T := Kd.S_below f_T hb
                      have m_q := f_q
                      have m_r4 := f_r4
                      have m_r14 := f_r14
                      refine hK.out _ _ m_G.c0 (fun hHeld => ?_)
                      clear hK K
                      refine norm_ (a' := ?_) ?_ ?_
                      rotate_left
                      · show Act.put _ (some 55) _ = _
                        simp only [Act.put, List.setIfInBounds_toArray, List.set_cons_zero, List.set_cons_succ, i64_w, i32_w]
                        rfl
                      exact norm_ (by simp only [putAll, Act.put, List.setIfInBounds_toArray, List.set_cons_zero, List.set_cons_succ]) (hN_f4_c5_m14 (r4, r5, r14) _ ⟨m_B, m_F, m_G, m_R, m_T, m_q, m_r4, m_r5, m_r14⟩)
                    intro hN_f4_m14
                    refine join_ (σ := Nat) 10 #[true, true, true, true, true, false, false, true, true, false, false, true, true, true, false, false, false, false, false, false] (fun s_ => [(54, .float .f32 s_)]) (fun s_ w' => (Below w.heap.size w w') ∧ (BoxAt w' (w.heap.size) 27 (.slice none 0 0) (.slice none 0 0)) ∧ (BoxAt w' g 27 u vt) ∧ (Kd.R k42 42 w' w.heap.size (fun _ => True) u l) ∧ (Kd.S (Kd.slice 2 (Kd.int .i64)) 56 w' w.heap.size (fun _ => True) vt (ringTn W (min (y * W + x) (H * W)))) ∧ (FR .f32 q0 (bin .quo .f32 (val .f32 (floatOfInt .f32 xi)) (val .f32 (floatOfInt .f32 a0)))) ∧ (FR .f32 s_ (bin .add .f32 (val .f32 q0) (val .f32 1048576000)))) ?_ ?_
                    · skip
                      rintro r4 wn ⟨f_B, f_F, f_G, f_R, f_T, f_q, f_r4⟩
                      replace f_B : Below w.heap.size w wn := f_B
                      replace f_F : BoxAt wn (w.heap.size) 27 (.slice none 0 0) (.slice none 0 0) := f_F
                      replace f_G : BoxAt wn g 27 u vt := f_G
                      replace f_R : Kd.R k42 42 wn w.heap.size (fun _ => True) u l := f_R
                      replace f_T : Kd.S (Kd.slice 2 (Kd.int .i64)) 56 wn w.heap.size (fun _ => True) vt (ringTn W (min (y * W + x) (H * W))) := f_T
                      replace f_q : FR .f32 q0 (bin .quo .f32 (val .f32 (floatOfInt .f32 xi)) (val .f32 (floatOfInt .f32 a0))) := f_q
                      replace f_r4 : FR .f32 r4 (bin .add .f32 (val .f32 q0) (val .f32 1048576000)) := f_r4
                      refine norm_ (a' := ?_) ?_ ?_
                      rotate_left
                      · simp only [putAll, Act.put, List.setIfInBounds_toArray, List.set_cons_zero, List.set_cons_succ]; rfl
                      refine two_ (i := 5) (j := 14) (Ni := (some 55)) (Nj := (some 64)) #[true, true, true, true, true, true, false, true, true, false, false, true, true, true, false, false, false, false, false, false] #[true, true, true, true, true, false, false, true, true, false, false, true, true, true, true, false, false, false, false, false] rfl rfl rfl rfl (by kernel_rfl) (by decide) (by decide) (fun K hK => ?_) (fun K hK => ?_) 
                      · skip
                        refine goes_ Try.func60 (by kernel_rfl) rfl #[.float .f32 r4] (by rfl) rfl rfl (by (try simp only [List.map_toArray, List.map_cons, List.map_nil]); first | done | rfl) ?_
                        refine (impl_SineTurns r4 f_r4.lt _).mono ?_
                        rintro E wz ⟨r5, rfl, m_r5, n_, hwz⟩
                        refine ⟨_, rfl, ?_⟩
                        have hb : Below wn.heap.size wn wz := by rw [hwz]; exact pw_below_drewN (Below.refl _ _) _
                        clear hwz
                        have m_B := below_step f_B hb
                        have m_F := f_F.below hb
                        have m_G := f_G.below hb
                        have m_R := Kd.R_below f_R hb
                        have m_T := Kd.S_below f_T hb
                        have m_q := f_q
                        have m_r4 := f_r4
                        refine hK.out _ _ m_G.c0 (fun hHeld => ?_)
                        clear hK K
                        refine norm_ (a' := ?_) ?_ ?_
                        rotate_left
                        · show Act.put _ (some 55) _ = _
                          simp only [Act.put, List.setIfInBounds_toArray, List.set_cons_zero, List.set_cons_succ, i64_w, i32_w]
                          rfl
                        exact norm_ (by simp only [putAll, Act.put, List.setIfInBounds_toArray, List.set_cons_zero, List.set_cons_succ]) (hN_f4_c5 (r4, r5) _ ⟨m_B, m_F, m_G, m_R, m_T, m_q, m_r4, m_r5⟩)
                      · skip
                        refine fbin_step (by rfl) rfl .mul 33 33 _ _ rfl (by decide) ((floatOfInt .f32 yi)) (v1) (by rfl) (by rfl) ?_
                        intro r14 n_ m_r14
                        obtain ⟨wz, hwz⟩ : ∃ W', W' = wn.drewN n_ := ⟨_, rfl⟩
                        rw [← hwz]
                        have hb : Below wn.heap.size wn wz := by rw [hwz]; exact pw_below_drewN (Below.refl _ _) _
                        clear hwz
                        have m_B := below_step f_B hb
                        have m_F := f_F.below hb
                        have m_G := f_G.below hb
                        have m_R := Kd.R_below f_R hb
                        have m_T := Kd.S_below f_T hb
                        have m_q := f_q
                        have m_r4 := f_r4
                        refine hK.out _ _ m_G.c0 (fun hHeld => ?_)
                        clear hK K
                        refine norm_ (a' := ?_) ?_ ?_
                        rotate_left
                        · show Act.put _ (some 64) _ = _
                          simp only [Act.put, List.setIfInBounds_toArray, List.set_cons_zero, List.set_cons_succ, i64_w, i32_w]
                          rfl
                        exact norm_ (by simp only [putAll, Act.put, List.setIfInBounds_toArray, List.set_cons_zero, List.set_cons_succ]) (hN_f4_m14 (r4, r14) _ ⟨m_B, m_F, m_G, m_R, m_T, m_q, m_r4, m_r14⟩)
                    intro hN_f4
                    refine join_ (σ := Nat) 10 #[true, true, true, true, false, false, false, true, true, false, false, true, true, true, true, false, false, false, false, false] (fun s_ => [(64, .float .f32 s_)]) (fun s_ w' => (Below w.heap.size w w') ∧ (BoxAt w' (w.heap.size) 27 (.slice none 0 0) (.slice none 0 0)) ∧ (BoxAt w' g 27 u vt) ∧ (Kd.R k42 42 w' w.heap.size (fun _ => True) u l) ∧ (Kd.S (Kd.slice 2 (Kd.int .i64)) 56 w' w.heap.size (fun _ => True) vt (ringTn W (min (y * W + x) (H * W)))) ∧ (FR .f32 q0 (bin .quo .f32 (val .f32 (floatOfInt .f32 xi)) (val .f32 (floatOfInt .f32 a0)))) ∧ (FR .f32 s_ (bin .mul .f32 (val .f32 (floatOfInt .f32 yi)) (val .f32 v1)))) ?_ ?_
                    · skip
                      rintro r14 wn ⟨f_B, f_F, f_G, f_R, f_T, f_q, f_r14⟩
                      replace f_B : Below w.heap.size w wn := f_B
                      replace f_F : BoxAt wn (w.heap.size) 27 (.slice none 0 0) (.slice none 0 0) := f_F
                      replace f_G : BoxAt wn g 27 u vt := f_G
                      replace f_R : Kd.R k42 42 wn w.heap.size (fun _ => True) u l := f_R
                      replace f_T : Kd.S (Kd.slice 2 (Kd.int .i64)) 56 wn w.heap.size (fun _ => True) vt (ringTn W (min (y * W + x) (H * W))) := f_T
                      replace f_q : FR .f32 q0 (bin .quo .f32 (val .f32 (floatOfInt .f32 xi)) (val .f32 (floatOfInt .f32 a0))) := f_q
                      replace f_r14 : FR .f32 r14 (bin .mul .f32 (val .f32 (floatOfInt .f32 yi)) (val .f32 v1)) := f_r14
                      refine norm_ (a' := ?_) ?_ ?_
                      rotate_left
                      · simp only [putAll, Act.put, List.setIfInBounds_toArray, List.set_cons_zero, List.set_cons_succ]; rfl
                      refine one_ (i := 4) (N := (some 54)) #[true, true, true, true, true, false, false, true, true, false, false, true, true, true, true, false, false, false, false, false] rfl rfl (by kernel_rfl) (by decide) (fun K hK => ?_)
                      refine fbin_step (by rfl) rfl .add 33 33 _ _ rfl (by decide) (q0) (1048576000) (by rfl) (by rfl) ?_
                      intro r4 n_ m_r4
                      obtain ⟨wz, hwz⟩ : ∃ W', W' = wn.drewN n_ := ⟨_, rfl⟩
                      rw [← hwz]
                      have hb : Below wn.heap.size wn wz := by rw [hwz]; exact pw_below_drewN (Below.refl _ _) _
                      clear hwz
                      have m_B := below_step f_B hb
                      have m_F := f_F.below hb
                      have m_G := f_G.below hb
                      have m_R := Kd.R_below f_R hb
                      have m_T := Kd.S_below f_T hb
                      have m_q := f_q
                      have m_r14 := f_r14
                      refine hK.out _ _ m_G.c0 (fun hHeld => ?_)
                      clear hK K
                      refine norm_ (a' := ?_) ?_ ?_
                      rotate_left
                      · show Act.put _ (some 54) _ = _
                        simp only [Act.put, List.setIfInBounds_toArray, List.set_cons_zero, List.set_cons_succ, i64_w, i32_w]
                        rfl
                      exact norm_ (by simp only [putAll, Act.put, List.setIfInBounds_toArray, List.set_cons_zero, List.set_cons_succ]) (hN_f4_m14 (r4, r14) _ ⟨m_B, m_F, m_G, m_R, m_T, m_q, m_r4, m_r14⟩)
                    intro hN_m14
                    refine two_ (i := 4) (j := 14) (Ni := (some 54)) (Nj := (some 64)) #[true, true, true, true, true, false, false, true, true, false, false, true, true, true, false, false, false, false, false, false] #[true, true, true, true, false, false, false, true, true, false, false, true, true, true, true, false, false, false, false, false] rfl rfl rfl rfl (by kernel_rfl) (by decide) (by decide) (fun K hK => ?_) (fun K hK => ?_) 
                    · skip
                      refine fbin_step (by rfl) rfl .add 33 33 _ _ rfl (by decide) (q0) (1048576000) (by rfl) (by rfl) ?_
                      intro r4 n_ m_r4
                      obtain ⟨wz, hwz⟩ : ∃ W', W' = w13.drewN n_ := ⟨_, rfl⟩
                      rw [← hwz]
                      have hb : Below w13.heap.size w13 wz := by rw [hwz]; exact pw_below_drewN (Below.refl _ _) _
                      clear hwz
                      have m_B := below_step d_B hb
                      have m_F := d_F.below hb
                      have m_G := d_G.below hb
                      have m_R := Kd.R_below d_R hb
                      have m_T := Kd.S_below d_T hb
                      have m_q := d_q
                      refine hK.out _ _ m_G.c0 (fun hHeld => ?_)
                      clear hK K
                      refine norm_ (a' := ?_) ?_ ?_
                      rotate_left
                      · show Act.put _ (some 54) _ = _
                        simp only [Act.put, List.setIfInBounds_toArray, List.set_cons_zero, List.set_cons_succ, i64_w, i32_w]
                        rfl
                      exact norm_ (by simp only [putAll, Act.put, List.setIfInBounds_toArray, List.set_cons_zero, List.set_cons_succ]) (hN_f4 (r4) _ ⟨m_B, m_F, m_G, m_R, m_T, m_q, m_r4⟩)
                    · skip
                      refine fbin_step (by rfl) rfl .mul 33 33 _ _ rfl (by decide) ((floatOfInt .f32 yi)) (v1) (by rfl) (by rfl) ?_
                      intro r14 n_ m_r14
                      obtain ⟨wz, hwz⟩ : ∃ W', W' = w13.drewN n_ := ⟨_, rfl⟩
                      rw [← hwz]
                      have hb : Below w13.heap.size w13 wz := by rw [hwz]; exact pw_below_drewN (Below.refl _ _) _
                      clear hwz
                      have m_B := below_step d_B hb
                      have m_F := d_F.below hb
                      have m_G := d_G.below hb
                      have m_R := Kd.R_below d_R hb
                      have m_T := Kd.S_below d_T hb
                      have m_q := d_q
                      refine hK.out _ _ m_G.c0 (fun hHeld => ?_)
                      clear hK K
                      refine norm_ (a' := ?_) ?_ ?_
                      rotate_left
                      · show Act.put _ (some 64) _ = _
                        simp only [Act.put, List.setIfInBounds_toArray, List.set_cons_zero, List.set_cons_succ, i64_w, i32_w]
                        rfl
                      exact norm_ (by simp only [putAll, Act.put, List.setIfInBounds_toArray, List.set_cons_zero, List.set_cons_succ]) (hN_m14 (r14) _ ⟨m_B, m_F, m_G, m_R, m_T, m_q, m_r14⟩)
                  rintro ⟨r4, r5, r6, r9, r10, r14⟩ wl ⟨f_B, f_F, f_G, f_R, f_T, f_q, f_r4, f_r5, f_r6, f_r9, f_r10, f_r14⟩
                  replace f_B : Below w.heap.size w wl := f_B
                  replace f_F : BoxAt wl (w.heap.size) 27 (.slice none 0 0) (.slice none 0 0) := f_F
                  replace f_G : BoxAt wl g 27 u vt := f_G
                  replace f_R : Kd.R k42 42 wl w.heap.size (fun _ => True) u l := f_R
                  replace f_T : Kd.S (Kd.slice 2 (Kd.int .i64)) 56 wl w.heap.size (fun _ => True) vt (ringTn W (min (y * W + x) (H * W))) := f_T
                  replace f_q : FR .f32 q0 (bin .quo .f32 (val .f32 (floatOfInt .f32 xi)) (val .f32 (floatOfInt .f32 a0))) := f_q
                  replace f_r4 : FR .f32 r4 (bin .add .f32 (val .f32 q0) (val .f32 1048576000)) := f_r4
                  replace f_r5 : FR .f32 r5 (sineTurnsV (val .f32 r4)) := f_r5
                  replace f_r6 : FR .f32 r6 (bin .mul .f32 (val .f32 v0) (val .f32 r5)) := f_r6
                  replace f_r9 : FR .f32 r9 (sineTurnsV (val .f32 q0)) := f_r9
                  replace f_r10 : FR .f32 r10 (bin .mul .f32 (val .f32 v0) (val .f32 r9)) := f_r10
                  replace f_r14 : FR .f32 r14 (bin .mul .f32 (val .f32 (floatOfInt .f32 yi)) (val .f32 v1)) := f_r14
                  refine norm_ (a' := ?_) ?_ ?_
                  rotate_left
                  · simp only [putAll, Act.put, List.setIfInBounds_toArray, List.set_cons_zero, List.set_cons_succ]; rfl
                  refine pure_ (i := 15) (N := (some 65)) (v := ?_) (a' := ?_) #[true, true, true, true, true, true, true, true, true, true, true, true, true, true, true, true, false, false, false, false] rfl rfl (by kernel_rfl) (fun _ _ _ h => h) (Or.inl ⟨by rfl, ?_⟩) ?_ ?_
                  rotate_left
                  · intro w'
                    go_simp
                    with_reducible rfl
                  rotate_left
                  · simp only [Act.put, List.setIfInBounds_toArray, List.set_cons_zero, List.set_cons_succ, i64_w, i32_w]; rfl
                  refine one_ (i := 16) (N := (some 66)) #[true, true, true, true, true, true, true, true, true, true, true, true, true, true, true, true, true, false, false, false] rfl rfl (by kernel_rfl) (by decide) (fun K hK => ?_)
                  refine value_ (w1 := ?_) (v := ?_) (by rfl) rfl ?_ ?_
                  rotate_left 2
                  · go_simp
                    constructor
                    · rfl
                    · rfl
                  refine hK.out _ _ (blk_cell (blk_alloc f_G _) 0) (fun hHeld => ?_)
                  clear hK K
                  refine norm_ (a' := ?_) ?_ ?_
                  rotate_left
                  · show Act.put _ (some 66) _ = _
                    simp only [Act.put, List.setIfInBounds_toArray, List.set_cons_zero, List.set_cons_succ, i64_w, i32_w]
                    rfl
                  refine one_ (i := 17) (N := (some 67)) #[true, true, true, true, true, true, true, true, true, true, true, true, true, true, true, true, true, true, false, false] rfl rfl (by kernel_rfl) (by decide) (fun K hK => ?_)
                  refine Kd.R_append_step k42 (w0 := w) w.heap.size (by rfl) (.tmp 51) (.tmp 66) 24 42 (.agg #[(.float .f32 0), (.float .f32 0), (.float .f32 0)]) 12 rfl Try.underlying24 info42 rfl (by decide) (by omega) u l ⟨r6, r10, r14⟩ [.float .f32 r6, .float .f32 r10, .float .f32 r14] (fun _ => True) (fun _ => False) rfl rfl (k42_mkM _ _ _ _) (fun _ hk => hk.elim) (fun _ _ => trivial) f_R f_B (below_size f_B) (by have := hlp.out; omega) ?_
                  intro v1_ w16 ho hb hg_ hat
                  have hp6 : FR .f32 r6 (bin .mul .f32 (val .f32 v0) (sineTurnsV (bin .add .f32 (bin .quo .f32 (val .f32 (floatOfInt .f32 (x : Int))) (val .f32 (floatOfInt .f32 (W : Int)))) (val .f32 1048576000)))) := by have h1_ := f_r6; rw [f_r5.val, f_r4.val, f_q.val, HXI.out, HWI.out] at h1_; exact h1_
                  have hp10 : FR .f32 r10 (bin .mul .f32 (val .f32 v0) (sineTurnsV (bin .quo .f32 (val .f32 (floatOfInt .f32 (x : Int))) (val .f32 (floatOfInt .f32 (W : Int)))))) := by have h1_ := f_r10; rw [f_r9.val, f_q.val, HXI.out, HWI.out] at h1_; exact h1_
                  have hp14 : FR .f32 r14 (bin .mul .f32 (val .f32 (floatOfInt .f32 (y : Int))) (val .f32 v1)) := by have h1_ := f_r14; rw [HYI.out] at h1_; exact h1_
                  have hps := HP.out.step hxlt hp6 hp10 hp14
                  obtain ⟨l2, hl2⟩ : ∃ l2, l2 = l ++ [(⟨r6, r10, r14⟩ : S42)] := ⟨_, rfl⟩
                  rw [← hl2] at ho hps
                  obtain ⟨Ap, cp, rfl⟩ := Kd.R_slice ho
                  have EF := Lib.hid (show BoxAt w16 (w.heap.size) 27 (.slice none 0 0) (.slice none 0 0) from blk_grown f_F hg_ (Kd.R_ne f_R f_F (by decide))); have EG := Lib.hid (show BoxAt w16 g 27 u vt from blk_grown f_G hg_ (Kd.R_ne f_R f_G (by decide)))
                  have ET := Lib.hid (Kd.S_over' f_T (Kd.R_typed f_R) (by decide) hg_); have ER := Lib.hid ho; have EB := Lib.hid hb; have EP := Lib.hid hps
                  clear ho hb hg_ hat hl2 hps hp6 hp10 hp14 f_B f_F f_G f_R f_T f_q f_r4 f_r5 f_r6 f_r9 f_r10 f_r14 HP
                  refine hK.out _ _ EG.out.c0 (fun hHeld => ?_)
                  clear hK K
                  refine norm_ (a' := ?_) ?_ ?_
                  rotate_left
                  · show Act.put _ (some 67) _ = _
                    simp only [Act.put, List.setIfInBounds_toArray, List.set_cons_zero, List.set_cons_succ, i64_w, i32_w]
                    rfl
                  refine pure_ (i := 18) (N := (some 68)) (v := ?_) (a' := ?_) #[true, true, true, true, true, true, true, true, true, true, true, true, true, true, true, true, true, true, true, false] rfl rfl (by kernel_rfl) (fun _ _ _ h => h) (Or.inl ⟨by rfl, ?_⟩) ?_ ?_
                  rotate_left
                  · intro w'
                    go_simp
                    with_reducible rfl
                  rotate_left
                  · simp only [Act.put, List.setIfInBounds_toArray, List.set_cons_zero, List.set_cons_succ, i64_w, i32_w]; rfl
                  refine last_ (i := 19) (N := none) #[true, true, true, true, true, true, true, true, true, true, true, true, true, true, true, true, true, true, true, true] rfl rfl (by kernel_rfl) (by decide) (fun K hK => ?_)
                  have hs28 : w16.cell? ⟨g, 0, none⟩ = some u := EG.out.c0
                  have hfs28 := blk_frozen EG.out 0
                  refine skip_ (w1 := ?_) (by rfl) rfl ?_ ?_
                  rotate_left
                  · go_simp
                    rfl
                  refine hK.out _ _ ?_
                  clear hK K
                  refine done_ (by kernel_rfl) ?_
                  clear hs28 hfs28
                  obtain ⟨w20, hw20⟩ : ∃ W', W' = w16.setCell ⟨g, 0, none⟩ (.slice Ap l2.length cp) := ⟨_, rfl⟩
                  rw [← hw20]
                  have HB := Lib.hid (show Below w.heap.size w w20 by rw [hw20]; exact below_set EB.out (by omega))
                  have HF := Lib.hid (show BoxAt w20 (w.heap.size) 27 (.slice none 0 0) (.slice none 0 0) by rw [hw20]; exact blk_far EF.out (by show w.heap.size ≠ g; omega) _)
                  have HG := Lib.hid (show BoxAt w20 g 27 (.slice Ap l2.length cp) vt by rw [hw20]; exact blk_put EG.out 0 _ rfl)
                  have HR := Lib.hid (show Kd.R k42 42 w20 w.heap.size (fun _ => True) (.slice Ap l2.length cp) l2 by rw [hw20]; exact R_boxset ER.out EG.out (by decide) 0 _)
                  have HS := Lib.hid (show Kd.S (Kd.slice 2 (Kd.int .i64)) 56 w20 w.heap.size (fun _ => True) vt (ringTn W (min (y * W + x) (H * W))) by rw [hw20]; exact Kd.S_set ET.out EG.out (by decide) 0 _)
                  clear hw20 EB EF EG ER ET
                  by_cases hyr : y < H
                  · have y5 : yi < a1 := by rw [HYI.out, HHI.out]; omega
                    have e1_ : min (y * W + x) (H * W) = y * W + x := Nat.min_eq_left (by have := Nat.mul_le_mul_right W (show y + 1 ≤ H by omega); rw [Nat.succ_mul] at this; omega)
                    have e2_ : min (y * W + (x + 1)) (H * W) = y * W + (x + 1) := Nat.min_eq_left (by have := Nat.mul_le_mul_right W (show y + 1 ≤ H by omega); rw [Nat.succ_mul] at this; omega)
                    rw [e1_] at HS
                    have HE2 := Lib.hid e2_
                    clear e1_ e2_
                    have hq1 : a0 * yi ≤ 16 * 64 := by rw [HWI.out, HYI.out, show (W : Int) * (y : Int) = ((W * y : Nat) : Int) by push_cast; rfl]; show _ ≤ ((16 * 64 : Nat) : Int); exact Int.ofNat_le.2 (Nat.mul_le_mul (by omega) (by omega))
                    have hq0 : 0 ≤ a0 * yi := by rw [HWI.out, HYI.out, show (W : Int) * (y : Int) = ((W * y : Nat) : Int) by push_cast; rfl]; exact Int.natCast_nonneg _
                    obtain ⟨m, hm⟩ : ∃ m, m = a0 * yi := ⟨_, rfl⟩
                    rw [← hm] at hq1 hq0
                    obtain ⟨m2, hm2⟩ : ∃ m2 : Int, m2 = (((x + 1) % W : Nat) : Int) := ⟨_, rfl⟩
                    have hm3 : 0 ≤ m2 := by rw [hm2]; exact Int.natCast_nonneg _
                    have hm4 : m2 ≤ 16 := by rw [hm2]; exact Int.ofNat_le.2 (Nat.le_trans (Nat.le_of_lt (Nat.mod_lt _ (by omega))) W16)
                    have et : Int.tmod (xi + 1) a0 = m2 := by rw [hm2, HXI.out, HWI.out]; exact tmod_nat x W
                    have x5 : xi ≤ 16 := by rw [HXI.out]; omega
                    have ew3 : wrap64 (xi + m) = xi + m := Msh.wrap_fit (by omega) (by omega)
                    have ei1 : wrap64 (m2 + m) = m2 + m := Msh.wrap_fit (by omega) (by omega)
                    have ei2 : wrap64 (m2 + m + a0) = m2 + m + a0 := Msh.wrap_fit (by omega) (by omega)
                    have ei3 : wrap64 (xi + m + a0) = xi + m + a0 := Msh.wrap_fit (by omega) (by omega)
                    have ei4 : wrap64 (xi + 1) = xi + 1 := Msh.wrap_fit (by omega) (by omega)
                    have ew2 : wrap64 (a0 * yi) = m := by rw [← hm]; exact Msh.wrap_fit (by omega) (by omega)
                    have hTD : triD W x y = [xi + m, m2 + m, m2 + m + a0] := by rw [hm, hm2, HXI.out, HYI.out, HWI.out]; rfl
                    have hTE : triE W x y = [xi + m, m2 + m + a0, xi + m + a0] := by rw [hm, hm2, HXI.out, HYI.out, HWI.out]; rfl
                    have hts := ringTn_step W x y hxlt
                    rw [hTD, hTE] at hts
                    have HTS := Lib.hid hts
                    have hll : Hid ((ringTn W (y * W + x)).length ≤ 16384) := Lib.hid (by rw [ringTn_len]; have := Nat.mul_le_mul_right W (show y ≤ 64 by omega); omega)
                    have hz1 : ¬ a0 = 0 := by omega
                    have hz2 : (a0 == 0) = false := by simpa using hz1
                    clear hts hTD hTE hm hm2
                    go_wp2_with fail
                    have hv20 : Below w20.heap.size w20 w20.drew := Below.drew (Below.refl _ _)
                    replace HB := Lib.hid (below_step HB.out hv20); replace HF := Lib.hid (HF.out.below hv20); replace HG := Lib.hid (HG.out.below hv20); replace HR := Lib.hid (Kd.R_below HR.out hv20); replace HS := Lib.hid (Kd.S_below HS.out hv20)
                    clear hv20
                    refine start_ (n := 15) (S := fun w' => True) (ds := []) #[false, false, false, false, false, false, false, false, false, false, false, false, false, false, false] (by kernel_rfl) rfl rfl trivial (fun hHeld => ?_)
                    generalize w20.drew = w21 at HB HF HG HR HS hHeld ⊢
                    refine pure_ (i := 0) (N := (some 72)) (v := ?_) (a' := ?_) #[true, false, false, false, false, false, false, false, false, false, false, false, false, false, false] rfl rfl (by kernel_rfl) (fun _ _ _ h => h) (Or.inl ⟨by rfl, ?_⟩) ?_ ?_
                    rotate_left
                    · intro w'
                      go_simp
                      with_reducible rfl
                    rotate_left
                    · simp only [Act.put, List.setIfInBounds_toArray, List.set_cons_zero, List.set_cons_succ, i64_w, i32_w]; rfl
                    refine pure_ (i := 1) (N := (some 73)) (v := ?_) (a' := ?_) #[true, true, false, false, false, false, false, false, false, false, false, false, false, false, false] rfl rfl (by kernel_rfl) (fun _ _ _ h => h) (Or.inl ⟨by rfl, ?_⟩) ?_ ?_
                    rotate_left
                    · intro w'
                      go_simp
                      with_reducible rfl
                    rotate_left
                    · simp only [Act.put, List.setIfInBounds_toArray, List.set_cons_zero, List.set_cons_succ, i64_w, i32_w]; rfl
                    refine pure_ (i := 2) (N := (some 74)) (v := ?_) (a' := ?_) #[true, true, true, false, false, false, false, false, false, false, false, false, false, false, false] rfl rfl (by kernel_rfl) (fun _ _ _ h => h) (Or.inl ⟨by rfl, ?_⟩) ?_ ?_
                    rotate_left
                    · intro w'
                      go_simp
                      with_reducible rfl
                    rotate_left
                    · simp only [Act.put, List.setIfInBounds_toArray, List.set_cons_zero, List.set_cons_succ, i64_w, i32_w]; rfl
                    refine pure_ (i := 3) (N := (some 75)) (v := ?_) (a' := ?_) #[true, true, true, true, false, false, false, false, false, false, false, false, false, false, false] rfl rfl (by kernel_rfl) (fun _ _ _ h => h) (Or.inl ⟨by rfl, ?_⟩) ?_ ?_
                    rotate_left
                    · intro w'
                      go_simp
                      with_reducible rfl
                    rotate_left
                    · simp only [Act.put, List.setIfInBounds_toArray, List.set_cons_zero, List.set_cons_succ, i64_w, i32_w]; rfl
                    refine pure_ (i := 4) (N := (some 76)) (v := ?_) (a' := ?_) #[true, true, true, true, true, false, false, false, false, false, false, false, false, false, false] rfl rfl (by kernel_rfl) (fun _ _ _ h => h) (Or.inl ⟨by rfl, ?_⟩) ?_ ?_
                    rotate_left
                    · intro w'
                      go_simp
                      with_reducible rfl
                    rotate_left
                    · simp only [Act.put, List.setIfInBounds_toArray, List.set_cons_zero, List.set_cons_succ, i64_w, i32_w]; rfl
                    refine pure_ (i := 5) (N := (some 77)) (v := ?_) (a' := ?_) #[true, true, true, true, true, true, false, false, false, false, false, false, false, false, false] rfl rfl (by kernel_rfl) (fun _ _ _ h => h) (Or.inl ⟨by rfl, ?_⟩) ?_ ?_
                    rotate_left
                    · intro w'
                      go_simp
                      with_reducible rfl
                    rotate_left
                    · simp only [Act.put, List.setIfInBounds_toArray, List.set_cons_zero, List.set_cons_succ, i64_w, i32_w]; rfl
                    refine pure_ (i := 6) (N := (some 78)) (v := ?_) (a' := ?_) #[true, true, true, true, true, true, true, false, false, false, false, false, false, false, false] rfl rfl (by kernel_rfl) (fun _ _ _ h => h) (Or.inl ⟨by rfl, ?_⟩) ?_ ?_
                    rotate_left
                    · intro w'
                      go_simp
                      with_reducible rfl
                    rotate_left
                    · simp only [Act.put, List.setIfInBounds_toArray, List.set_cons_zero, List.set_cons_succ, i64_w, i32_w]; rfl
                    refine pure_ (i := 7) (N := (some 79)) (v := ?_) (a' := ?_) #[true, true, true, true, true, true, true, true, false, false, false, false, false, false, false] rfl rfl (by kernel_rfl) (fun _ _ _ h => h) (Or.inl ⟨by rfl, ?_⟩) ?_ ?_
                    rotate_left
                    · intro w'
                      go_simp
                      with_reducible rfl
                    rotate_left
                    · simp only [Act.put, List.setIfInBounds_toArray, List.set_cons_zero, List.set_cons_succ, i64_w, i32_w]; rfl
                    refine pure_ (i := 8) (N := (some 80)) (v := ?_) (a' := ?_) #[true, true, true, true, true, true, true, true, true, false, false, false, false, false, false] rfl rfl (by kernel_rfl) (fun _ _ _ h => h) (Or.inl ⟨by rfl, ?_⟩) ?_ ?_
                    rotate_left
                    · intro w'
                      go_simp
                      with_reducible rfl
                    rotate_left
                    · simp only [Act.put, List.setIfInBounds_toArray, List.set_cons_zero, List.set_cons_succ, i64_w, i32_w]; rfl
                    refine pure_ (i := 9) (N := (some 81)) (v := ?_) (a' := ?_) #[true, true, true, true, true, true, true, true, true, true, false, false, false, false, false] rfl rfl (by kernel_rfl) (fun _ _ _ h => h) (Or.inl ⟨by rfl, ?_⟩) ?_ ?_
                    rotate_left
                    · intro w'
                      go_simp
                      with_reducible rfl
                    rotate_left
                    · simp only [Act.put, List.setIfInBounds_toArray, List.set_cons_zero, List.set_cons_succ, i64_w, i32_w]; rfl
                    refine pure_ (i := 10) (N := (some 82)) (v := ?_) (a' := ?_) #[true, true, true, true, true, true, true, true, true, true, true, false, false, false, false] rfl rfl (by kernel_rfl) (fun _ _ _ h => h) (Or.inl ⟨by rfl, ?_⟩) ?_ ?_
                    rotate_left
                    · intro w'
                      go_simp
                      with_reducible rfl
                    rotate_left
                    · simp only [Act.put, List.setIfInBounds_toArray, List.set_cons_zero, List.set_cons_succ, i64_w, i32_w]; rfl
                    refine pure_ (i := 11) (N := (some 83)) (v := ?_) (a' := ?_) #[true, true, true, true, true, true, true, true, true, true, true, true, false, false, false] rfl rfl (by kernel_rfl) (fun _ _ _ h => h) (Or.inl ⟨by rfl, ?_⟩) ?_ ?_
                    rotate_left
                    · intro w'
                      go_simp
                      with_reducible rfl
                    rotate_left
                    · simp only [Act.put, List.setIfInBounds_toArray, List.set_cons_zero, List.set_cons_succ, i64_w, i32_w]; rfl
                    refine pure_ (i := 12) (N := (some 84)) (v := ?_) (a' := ?_) #[true, true, true, true, true, true, true, true, true, true, true, true, true, false, false] rfl rfl (by kernel_rfl) (fun _ _ _ h => h) (Or.inl ⟨by rfl, ?_⟩) ?_ ?_
                    rotate_left
                    · intro w'
                      go_simp
                      with_reducible rfl
                    rotate_left
                    · simp only [Act.put, List.setIfInBounds_toArray, List.set_cons_zero, List.set_cons_succ, i64_w, i32_w]; rfl
                    refine pure_ (i := 13) (N := (some 14)) (v := ?_) (a' := ?_) #[true, true, true, true, true, true, true, true, true, true, true, true, true, true, false] rfl rfl (by kernel_rfl) (fun _ _ _ h => h) (Or.inl ⟨by rfl, ?_⟩) ?_ ?_
                    rotate_left
                    · intro w'
                      go_simp
                      with_reducible rfl
                    rotate_left
                    · simp only [Act.put, List.setIfInBounds_toArray, List.set_cons_zero, List.set_cons_succ, i64_w, i32_w]; rfl
                    refine pure_ (i := 14) (N := (some 15)) (v := ?_) (a' := ?_) #[true, true, true, true, true, true, true, true, true, true, true, true, true, true, true] rfl rfl (by kernel_rfl) (fun _ _ _ h => h) (Or.inl ⟨by rfl, ?_⟩) ?_ ?_
                    rotate_left
                    · intro w'
                      go_simp
                      with_reducible rfl
                    rotate_left
                    · simp only [Act.put, List.setIfInBounds_toArray, List.set_cons_zero, List.set_cons_succ, i64_w, i32_w]; rfl
                    refine done_ (by kernel_rfl) ?_
                    have hg1 := HG.out.c1
                    go_wp2_with (first
                      | ((with_reducible refine gate_dst (N := 92) rfl ?_); refine Kd.R_lit (Kd.int .i64) _ 2 ?hg (N := 92) ?hd (xs := ([xi + m, m2 + m, m2 + m + a0] : List Int)) (inner := [.int .i64 (xi + m), .int .i64 (m2 + m), .int .i64 (m2 + m + a0)]) (ok := fun _ => True) (okp := fun _ => True) ?hr ?hp (fun _ hk => hk) trivial (Below.refl _ _) (Nat.le_refl _) (by simp) ?_; (case hd => rfl); (case hg => rfl); (case hr => first | (go_simp; done) | (go_simp; rfl)); (case hp => exact (Reps.one (show Kd.M (Kd.int .i64) _ _ _ (xi + m) [.int .i64 (xi + m)] from rfl) (Reps.one (show Kd.M (Kd.int .i64) _ _ _ (m2 + m) [.int .i64 (m2 + m)] from rfl) (Reps.one (show Kd.M (Kd.int .i64) _ _ _ (m2 + m + a0) [.int .i64 (m2 + m + a0)] from rfl) (Reps.none _ _))))); intro va wa ho hb hg_ hnew_; clear hg_ hnew_; obtain ⟨Aa, ca, rfl⟩ := Kd.R_slice ho; have B2_ := Lib.hid (below_step HB.out hb); have F2_ := Lib.hid (HF.out.below hb); have G2_ := Lib.hid (HG.out.below hb); have R2_ := Lib.hid (Kd.R_below HR.out hb); have S2_ := Lib.hid (Kd.S_elder' HS.out (Kd.R_base ho) hb); have L2 := Lib.hid (Kd.R_lower ho (below_size HB.out)); have LB2 := Lib.hid (Kd.R_bound ho); clear ho hb hg1)
                      | ((with_reducible refine gate_dst (N := 100) rfl ?_); refine Kd.R_lit (Kd.int .i64) _ 2 ?hg (N := 100) ?hd (xs := ([xi + m, m2 + m + a0, xi + m + a0] : List Int)) (inner := [.int .i64 (xi + m), .int .i64 (m2 + m + a0), .int .i64 (xi + m + a0)]) (ok := fun _ => True) (okp := fun _ => True) ?hr ?hp (fun _ hk => hk) trivial (Below.refl _ _) (Nat.le_refl _) (by simp) ?_; (case hd => rfl); (case hg => rfl); (case hr => first | (go_simp; done) | (go_simp; rfl)); (case hp => exact (Reps.one (show Kd.M (Kd.int .i64) _ _ _ (xi + m) [.int .i64 (xi + m)] from rfl) (Reps.one (show Kd.M (Kd.int .i64) _ _ _ (m2 + m + a0) [.int .i64 (m2 + m + a0)] from rfl) (Reps.one (show Kd.M (Kd.int .i64) _ _ _ (xi + m + a0) [.int .i64 (xi + m + a0)] from rfl) (Reps.none _ _))))); intro vc wc ho hb hg_ hnew_; clear hg_ hnew_; obtain ⟨Ac, cc, rfl⟩ := Kd.R_slice ho; have B3_ := Lib.hid (below_step B2_.out hb); have F3_ := Lib.hid (F2_.out.below hb); have G3_ := Lib.hid (G2_.out.below hb); have R3_ := Lib.hid (Kd.R_below R2_.out hb); have S3_ := Lib.hid (Kd.S_elder' S2_.out (Kd.R_base ho) hb); have L3 := Lib.hid (Kd.R_below L2.out hb); have M3 := Lib.hid (Kd.R_lower ho (below_size B2_.out)); have D3 := Lib.hid (show ∀ k, some k = (Value.slice Aa 3 ca).ownBlock → ¬ some k = (Value.slice Ac 3 cc).ownBlock from fun k h1 h2 => by have := (LB2.out.1 k h1.symm).2.2.1; have := Kd.R_base ho k h2.symm; omega); clear ho hb)
                      | ((with_reducible refine gate_builtin (b := .append) (xs := #[.tmp 86, .tmp 101]) rfl ?_); at_builtin; refine S_append2 (Kd.slice 2 (Kd.int .i64)) rfl (w0 := w) w.heap.size rfl (.tmp 86) (.tmp 101) 25 56 (.slice none 0 0) 24 rfl Try.underlying25 info56 rfl (by omega) vt (ringTn W (y * W + x)) [xi + m, m2 + m, m2 + m + a0] [xi + m, m2 + m + a0, xi + m + a0] (.slice Aa 3 ca) (.slice Ac 3 cc) wc.heap.size (fun _ => True) (fun k_ => some k_ = (.slice Aa 3 ca : Value).ownBlock) (fun k_ => some k_ = (.slice Ac 3 cc : Value).ownBlock) rfl (by first | (go_simp; done) | (go_simp; rfl)) ?aC ?aD ?aP ?aQ ?aN ?aM D3.out ?aF ?aO ?aB ?aS ?aL ?_
                         (case aC => exact (blk_cell (heap_alloc_new wc (.cells #[.slice Aa 3 ca, .slice Ac 3 cc] 56)) 0).trans rfl); (case aD => exact (blk_cell (heap_alloc_new wc (.cells #[.slice Aa 3 ca, .slice Ac 3 cc] 56)) 1).trans rfl)
                         (case aP => exact Kd.M_row (Kd.R_alloc (Kd.R_mono (Kd.R_tight rfl (Kd.R_mono (ok' := fun k_ => ((fun _ => True)) k_ ∧ some k_ ≠ (vt : Value).ownBlock) (Kd.R_apart' (L3.out) (Kd.S_typed S3_.out) (by decide)) (fun k_ hk => ⟨trivial, hk.2⟩))) (fun _ h_ => h_)) (.cells #[.slice Aa 3 ca, .slice Ac 3 cc] 56))); (case aQ => exact Kd.M_row (Kd.R_alloc (Kd.R_mono (Kd.R_tight rfl (Kd.R_mono (ok' := fun k_ => ((fun _ => True)) k_ ∧ some k_ ≠ (vt : Value).ownBlock) (Kd.R_apart' (M3.out) (Kd.S_typed S3_.out) (by decide)) (fun k_ hk => ⟨trivial, hk.2⟩))) (fun _ h_ => h_)) (.cells #[.slice Aa 3 ca, .slice Ac 3 cc] 56)))
                         (case aN => exact fun k_ hk_ => ((Kd.R_mono (ok' := fun k_ => ((fun _ => True)) k_ ∧ some k_ ≠ (vt : Value).ownBlock) (Kd.R_apart' (L3.out) (Kd.S_typed S3_.out) (by decide)) (fun k_ hk => ⟨trivial, hk.2⟩))).1 k_ hk_.symm); (case aM => exact fun k_ hk_ => ((Kd.R_mono (ok' := fun k_ => ((fun _ => True)) k_ ∧ some k_ ≠ (vt : Value).ownBlock) (Kd.R_apart' (M3.out) (Kd.S_typed S3_.out) (by decide)) (fun k_ hk => ⟨trivial, hk.2⟩))).1 k_ hk_.symm)
                         (case aF => exact (fun _ _ => trivial)); (case aB => exact below_alloc B3_.out (.cells #[.slice Aa 3 ca, .slice Ac 3 cc] 56)); (case aS => exact Nat.le_trans (below_size B3_.out) (Nat.le_of_lt (blk_lt (heap_alloc_new wc (.cells #[.slice Aa 3 ca, .slice Ac 3 cc] 56))))); (case aL => have := hll.out; omega)
                         (case aO => exact Kd.S_alloc (Kd.S_mono S3_.out (fun k_ hk => ⟨trivial, fun e_ => hk.1.2 e_, fun e_ => hk.2 e_⟩)) (.cells #[.slice Aa 3 ca, .slice Ac 3 cc] 56))
                         intro v9 w4_ ho hb hg_ hat
                         have hW : Below wc.heap.size wc (wc.alloc (.cells #[.slice Aa 3 ca, .slice Ac 3 cc] 56)) := below_alloc (Below.refl _ _) _
                         have hG4 : BoxAt w4_ g 27 (.slice Ap l2.length cp) vt := blk_grown (G3_.out.below hW) hg_ (Kd.S_ne S3_.out G3_.out (by decide))
                         have F4_ := Lib.hid (show BoxAt w4_ (w.heap.size) 27 (.slice none 0 0) (.slice none 0 0) from blk_grown (F3_.out.below hW) hg_ (Kd.S_ne S3_.out F3_.out (by decide)))
                         have R4_ := Lib.hid (Kd.R_over' (Kd.R_below R3_.out hW) (Kd.S_typed (Kd.S_below S3_.out hW)) (by decide) hg_)
                         rw [← HTS.out] at ho
                         obtain ⟨Av, cv, rfl⟩ := Kd.S_slice ho
                         have G4_ := Lib.hid hG4; have S4_ := Lib.hid ho; have B4_ := Lib.hid hb; have gs1 := hG4.c1; have gz1 := blk_frozen hG4 1; clear ho hb hg_ hat hW hG4)
                      | fail)
                    exact ⟨⟨x + 1, xi + 1, _, _, l2, hxlt, by simp, Lib.hid (by rw [HXI.out]; omega), Lib.hid (below_set B4_.out (by omega)), Lib.hid (blk_far F4_.out (by show w.heap.size ≠ g; omega) _), Lib.hid (blk_put G4_.out 1 _ rfl), EP, Lib.hid (R_boxset R4_.out G4_.out (by decide) 1 _), Lib.hid (by rw [HE2.out]; exact Kd.S_set S4_.out G4_.out (by decide) 1 _)⟩, by have h1_ := HXI.out; simp [intOf]; omega⟩
                  · have y5 : ¬ (yi < a1) := by rw [HYI.out, HHI.out]; omega
                    have hyH : y = H := by omega
                    have e1_ : min (y * W + x) (H * W) = H * W := by rw [hyH]; exact Nat.min_eq_right (Nat.le_add_right _ _)
                    have e2_ : min (y * W + (x + 1)) (H * W) = H * W := by rw [hyH]; exact Nat.min_eq_right (Nat.le_add_right _ _)
                    rw [e1_] at HS
                    have HE2 := Lib.hid e2_
                    clear e1_ e2_ hyH
                    go_wp2_with fail
                    exact ⟨⟨x + 1, xi + 1, _, _, l2, hxlt, by simp, Lib.hid (by rw [HXI.out]; omega), HB, HF, HG, EP, HR, Lib.hid (by rw [HE2.out]; exact HS.out)⟩, by have h1_ := HXI.out; simp [intOf]; omega⟩
                · obtain rfl : W = x := by omega
                  have x1 : ¬ (xi < a0) := by rw [HXI.out, HWI.out]; omega
                  go_wp2_with fail
                  exact ⟨⟨y + 1, yi + 1, u, vt, l, hlt, by simp, Lib.hid (by rw [HYI.out]; omega), HB, HF, HG, Lib.hid HP.out.row, HR, Lib.hid (by rw [Nat.succ_mul]; exact HS.out)⟩, by have h1_ := HYI.out; simp [intOf]; omega⟩
            · obtain rfl : y = H + 1 := by omega
              have y1 : ¬ (yi < a1 + 1) := by rw [HYI.out, HHI.out]; omega
              have e9_ : min ((H + 1) * W) (H * W) = H * W := Nat.min_eq_right (Nat.mul_le_mul_right W (Nat.le_succ H))
              rw [e9_] at HS
              clear e9_
              skip
              have gd0 := HG.out.c0
              have gd1 := HG.out.c1
              have hsp : simP l (ringP W H v0 v1) := HP.out
              have hS : Kd.S (Kd.slice 2 (Kd.int .i64)) 56 wr w.heap.size (fun _ => True) vt (ringT W H) := HS.out
              have hR := HR.out
              obtain ⟨Ar, cr, eu⟩ := Kd.R_slice hR
              obtain ⟨At, ct, rfl⟩ := Kd.S_slice hS
              rw [eu] at hR
              obtain ⟨_, p2, p3⟩ := Kd.R_reads' hR
              obtain ⟨_, p5, p6⟩ := Kd.S_reads' hS
              have hval := fun (W' : World) (h : Below wr.heap.size wr W') => impl_validMesh Ar cr l At ct (ringT W H) W' (Kd.C_below p3 h) (by omega) (Kd.C_below p6 h) (by omega)
              have hl := hsp.1
              simp only [hl] at hval eu
              rw [hl] at hR
              subst eu
              have HGV := Lib.hid hval
              have HR9 := Lib.hid hR; have HS9 := Lib.hid hS; have HSP := Lib.hid hsp
              clear p2 p3 p5 p6 hsp hS hR hl hval HP HR HS
              generalize ringP W H v0 v1 = P at *
              generalize ringT W H = Tn at *
              cases hv9 : validB P.length Tn
              · rw [hv9] at HGV
                go_wp2_with (first
                  | (go_at_call 50; refine (HGV.out _ (Below.refl _ _)).mono ?_; rintro E w1 ⟨rfl, hb⟩; have B9 := Lib.hid (below_step HB.out hb); have hF9 := HF.out.below hb; have f0 := hF9.c0; have f1 := hF9.c1; have z0 := blk_frozen hF9 0; have z1 := blk_frozen hF9 1; clear hb; (try simp only [giveV, Bool.false_eq_true, if_false, if_true]))
                  | fail)
                ((try simp only [Exit.inBlock, Exit.then]); refine bodyPost_ret (by simp [results, Try.results20, go_sem, f0, f1, setCell_same_of, World.cell?_setCell_other]; try rfl) rfl ?_)
                rw [show joinV P Tn = ([], [], false) by unfold joinV; rw [hv9]; rfl]
                exact ⟨[], none, 0, none, 0, simP_nil, rfl, ⟨Kd.R_nil _ _ _ _ _, Kd.S_nil _ _ _ _ _⟩, below_set (below_set B9.out (by omega)) (by omega)⟩
              · rw [hv9] at HGV
                go_wp2_with (first
                  | (go_at_call 50; refine (HGV.out _ (Below.refl _ _)).mono ?_; rintro E w1 ⟨rfl, hb⟩; have B9 := Lib.hid (below_step HB.out hb); have Q9 := Lib.hid (Kd.R_below HR9.out hb); have T9 := Lib.hid (Kd.S_below HS9.out hb); have hF9 := HF.out.below hb; have F9 := Lib.hid hF9; have f0 := hF9.c0; have f1 := hF9.c1; have z0 := blk_frozen hF9 0; have z1 := blk_frozen hF9 1; clear hb hF9; (try simp only [giveV, Bool.false_eq_true, if_false, if_true]))
                  | fail)
                ((try simp only [Exit.inBlock, Exit.then]); refine bodyPost_ret (by simp [results, Try.results20, go_sem, f0, f1, setCell_same_of, World.cell?_setCell_other]; try rfl) rfl ?_)
                rw [show joinV P Tn = (P, Tn, true) by unfold joinV; rw [hv9]; rfl]
                exact ⟨l, Ar, cr, At, ct, HSP.out, rfl, ⟨R_in (R_boxset (R_boxset Q9.out F9.out (by decide) 0 _) (blk_put F9.out 0 _ rfl) (by decide) 1 _), S_in (Kd.S_set (Kd.S_set T9.out F9.out (by decide) 0 _) (blk_put F9.out 0 _ rfl) (by decide) 1 _)⟩, below_set (below_set B9.out (by omega)) (by omega)⟩
        · have HS1 := Lib.hid (Bool.eq_false_iff.2 hs1)
          have hr : ringR a0 a1 v0 v1 = ([], [], false) := by unfold ringR; rw [if_neg (by unfold ringOk; rw [Bool.eq_false_iff.2 hs1, Bool.and_false]; simp)]
          rw [hr]
          clear hr hw hh hs0 hs1
          go_enter Try.func20, Try.ntmps20
          go_wp2_with (first
              | (go_at_call 58; first | (have hb1 := B1.out; refine (HH.out _).mono ?_; rintro E w2 ⟨rfl, hd⟩; have B2 := Lib.hid (below_step B1.out hd.below); have F2 := Lib.hid (F1.out.below hd.below); clear hd hb1; skip) | (refine (HW.out _).mono ?_; rintro E w1 ⟨rfl, hd⟩; have B1 := Lib.hid (below_step B0.out hd.below); have F1 := Lib.hid (F0.out.below hd.below); clear hd; skip))
              | (go_at_call 59; first | (have hb3 := B3.out; refine (G8.impl_isOver _ _).mono ?_; rw [HS1.out]; rintro E w4 ⟨rfl, n, e4_⟩; have hn : Below w3.heap.size w3 w4 := (by rw [e4_]; exact pw_below_drewN (Below.refl w3.heap.size w3) n); clear e4_; have B4 := Lib.hid (below_step B3.out hn); have F4 := Lib.hid (F3.out.below hn); clear hn hb3; have hFe := F4.out; have f0 := hFe.c0; have f1 := hFe.c1; have z0 := blk_frozen hFe 0; have z1 := blk_frozen hFe 1; clear hFe; skip) | (refine (G8.impl_isOver _ _).mono ?_; rw [HS0.out]; rintro E w3 ⟨rfl, n, e3_⟩; have hn : Below w2.heap.size w2 w3 := (by rw [e3_]; exact pw_below_drewN (Below.refl w2.heap.size w2) n); clear e3_; have B3 := Lib.hid (below_step B2.out hn); have F3 := Lib.hid (F2.out.below hn); clear hn; skip))
              | fail)
          ((try simp only [Exit.inBlock, Exit.then]); refine bodyPost_ret (by simp [results, Try.results20, go_sem, f0, f1, setCell_same_of, World.cell?_setCell_other]; try rfl) rfl ?_)
          exact ⟨[], none, 0, none, 0, simP_nil, rfl, ⟨Kd.R_nil _ _ _ _ _, Kd.S_nil _ _ _ _ _⟩, below_set (below_set B4.out (Nat.le_refl _)) (Nat.le_refl _)⟩
      · have HS0 := Lib.hid (Bool.eq_false_iff.2 hs0)
        have hr : ringR a0 a1 v0 v1 = ([], [], false) := by unfold ringR; rw [if_neg (by unfold ringOk; rw [Bool.eq_false_iff.2 hs0, Bool.and_false, Bool.false_and]; simp)]
        rw [hr]
        clear hr hw hh hs0
        go_enter Try.func20, Try.ntmps20
        go_wp2_with (first
              | (go_at_call 58; first | (have hb1 := B1.out; refine (HH.out _).mono ?_; rintro E w2 ⟨rfl, hd⟩; have B2 := Lib.hid (below_step B1.out hd.below); have F2 := Lib.hid (F1.out.below hd.below); clear hd hb1; skip) | (refine (HW.out _).mono ?_; rintro E w1 ⟨rfl, hd⟩; have B1 := Lib.hid (below_step B0.out hd.below); have F1 := Lib.hid (F0.out.below hd.below); clear hd; skip))
              | (go_at_call 59; refine (G8.impl_isOver _ _).mono ?_; rw [HS0.out]; rintro E w3 ⟨rfl, n, e3_⟩; have hn : Below w2.heap.size w2 w3 := (by rw [e3_]; exact pw_below_drewN (Below.refl w2.heap.size w2) n); clear e3_; have B3 := Lib.hid (below_step B2.out hn); have F3 := Lib.hid (F2.out.below hn); clear hn; have hFe := F3.out; have f0 := hFe.c0; have f1 := hFe.c1; have z0 := blk_frozen hFe 0; have z1 := blk_frozen hFe 1; clear hFe; skip)
              | fail)
        ((try simp only [Exit.inBlock, Exit.then]); refine bodyPost_ret (by simp [results, Try.results20, go_sem, f0, f1, setCell_same_of, World.cell?_setCell_other]; try rfl) rfl ?_)
        exact ⟨[], none, 0, none, 0, simP_nil, rfl, ⟨Kd.R_nil _ _ _ _ _, Kd.S_nil _ _ _ _ _⟩, below_set (below_set B3.out (Nat.le_refl _)) (Nat.le_refl _)⟩
    · rw [decide_eq_false hh] at HH
      have hr : ringR a0 a1 v0 v1 = ([], [], false) := by unfold ringR; rw [if_neg (by unfold ringOk; rw [decide_eq_false hh, Bool.and_false, Bool.false_and, Bool.false_and]; simp)]
      rw [hr]
      clear hr hw hh
      go_enter Try.func20, Try.ntmps20
      go_wp2_with (first
              | (go_at_call 58; first | (have hb1 := B1.out; refine (HH.out _).mono ?_; rintro E w2 ⟨rfl, hd⟩; have B2 := Lib.hid (below_step B1.out hd.below); have F2 := Lib.hid (F1.out.below hd.below); clear hd hb1; have hFe := F2.out; have f0 := hFe.c0; have f1 := hFe.c1; have z0 := blk_frozen hFe 0; have z1 := blk_frozen hFe 1; clear hFe; skip) | (refine (HW.out _).mono ?_; rintro E w1 ⟨rfl, hd⟩; have B1 := Lib.hid (below_step B0.out hd.below); have F1 := Lib.hid (F0.out.below hd.below); clear hd; skip))
              | fail)
      ((try simp only [Exit.inBlock, Exit.then]); refine bodyPost_ret (by simp [results, Try.results20, go_sem, f0, f1, setCell_same_of, World.cell?_setCell_other]; try rfl) rfl ?_)
      exact ⟨[], none, 0, none, 0, simP_nil, rfl, ⟨Kd.R_nil _ _ _ _ _, Kd.S_nil _ _ _ _ _⟩, below_set (below_set B2.out (Nat.le_refl _)) (Nat.le_refl _)⟩
  · rw [decide_eq_false hw] at HW
    have hr : ringR a0 a1 v0 v1 = ([], [], false) := by unfold ringR; rw [if_neg (by unfold ringOk; rw [decide_eq_false hw, Bool.false_and, Bool.false_and, Bool.false_and]; simp)]
    rw [hr]
    clear hr hw
    go_enter Try.func20, Try.ntmps20
    go_wp2_with (first
              | (go_at_call 58; refine (HW.out _).mono ?_; rintro E w1 ⟨rfl, hd⟩; have B1 := Lib.hid (below_step B0.out hd.below); have F1 := Lib.hid (F0.out.below hd.below); clear hd; have hFe := F1.out; have f0 := hFe.c0; have f1 := hFe.c1; have z0 := blk_frozen hFe 0; have z1 := blk_frozen hFe 1; clear hFe; skip)
              | fail)
    ((try simp only [Exit.inBlock, Exit.then]); refine bodyPost_ret (by simp [results, Try.results20, go_sem, f0, f1, setCell_same_of, World.cell?_setCell_other]; try rfl) rfl ?_)
    exact ⟨[], none, 0, none, 0, simP_nil, rfl, ⟨Kd.R_nil _ _ _ _ _, Kd.S_nil _ _ _ _ _⟩, below_set (below_set B1.out (Nat.le_refl _)) (Nat.le_refl _)⟩

end Go.Proofs.Ytepilofcionekaa
namespace Go.Proofs.Ytepilofcionekaa
open Fl Go.RowKit Go.Proofs.YtepilofcionekaaW.PrintWords Go.Proofs.YtepilofcionekaaW.PrintLast Go.Proofs.YtepilofcionekaaW.PrintMore Go.Proofs.Ytepilofcionekaa.PMesh Msh
set_option linter.unusedVariables false
set_option linter.unusedSimpArgs false

set_option maxHeartbeats 8000000 in
set_option maxRecDepth 100000 in
theorem spec_l02Ring (W H v0 v1 : Nat) (a0 a1 : Int) (HWI : Hid (a0 = (W : Int))) (HHI : Hid (a1 = (H : Int))) (W3 : 3 ≤ W) (W16 : W ≤ 16) (H64 : H ≤ 64) (w : World) :
    Calls Try.prog 40 #[.int .i64 a0, .int .i64 a1, .float .f32 v0, .float .f32 v1] w (AnsG w (ringP W H v0 v1) (ringT W H)) := by
  have B0 := Lib.hid (below_alloc (Below.refl w.heap.size w) (.cells #[.slice none 0 0, .slice none 0 0] 27))
  have F0 := Lib.hid (BoxAt.new w 27 (.slice none 0 0) (.slice none 0 0))
  have hw2 : a0 ≤ 16 := by rw [HWI.out]; omega
  have hw1 : 3 ≤ a0 := by rw [HWI.out]; omega
  have hh2 : a1 ≤ 64 := by rw [HHI.out]; omega
  have hh1 : 0 ≤ a1 := by rw [HHI.out]; omega
  go_enter Try.func40, Try.ntmps40
  go_wp2_with (first
    | ((with_reducible refine gate_dst (N := 18) rfl ?_); refine Kd.R_lit k42 _ 42 ?hg (N := 18) ?hd (xs := ([] : List S42)) (inner := []) (ok := fun _ => True) (okp := fun _ => True) ?hr ?hp (fun _ hk => hk) trivial (Below.refl _ _) (Nat.le_refl _) (by simp) ?_; (case hd => rfl); (case hg => rfl); (case hr => first | (go_simp; done) | (go_simp; rfl)); (case hp => exact (Reps.none _ _)); intro vu w2 ho hb hg_ hnew_; clear hg_ hnew_; obtain ⟨A4, c4, rfl⟩ := Kd.R_slice ho; have B2 := Lib.hid (below_step B0.out hb); have F2 := Lib.hid (F0.out.below hb); have Q2 := Lib.hid (Kd.R_lower ho (below_size B0.out)); clear ho hb)
    | ((with_reducible refine gate_dst (N := 19) rfl ?_); refine Kd.S_lit (Kd.slice 2 (Kd.int .i64)) _ 56 ?hg (N := 19) ?hd (xs := ([] : List (List Int))) (inner := []) (ok := fun _ => True) (okp := fun _ => True) ?hr ?hp (fun _ hk => hk) trivial (Below.refl _ _) (Nat.le_refl _) (by simp) ?_; (case hd => rfl); (case hg => rfl); (case hr => first | (go_simp; done) | (go_simp; rfl)); (case hp => exact (Reps.none _ _)); intro vt w4 ho hb hg_ hnew_; clear hg_ hnew_; obtain ⟨A5, c5, rfl⟩ := Kd.S_slice ho; have B4 := Lib.hid (below_step B2.out hb); have F4 := Lib.hid (F2.out.below hb); have Q4 := Lib.hid (Kd.R_below Q2.out hb); have T4 := Lib.hid (Kd.S_lower ho (below_size B2.out)); clear ho hb)
    | fail)
  have hgl := F4.out.lt
  obtain ⟨wA, hwA⟩ : ∃ W', W' = w4.alloc (.cells #[.slice A4 0 c4, .slice A5 0 c5] 27) := ⟨_, rfl⟩
  have hvA : Below w4.heap.size w4 wA := by rw [hwA]; exact below_alloc (Below.refl _ _) _
  have BA := Lib.hid (below_step B4.out hvA)
  have FA := Lib.hid (F4.out.below hvA)
  have GA := Lib.hid (show BoxAt wA w4.heap.size 27 (.slice A4 0 c4) (.slice A5 0 c5) by rw [hwA]; exact BoxAt.new w4 27 _ _)
  have QA := Lib.hid (Kd.R_below Q4.out hvA)
  have TA := Lib.hid (Kd.S_below T4.out hvA)
  rw [← hwA]
  clear hwA hvA B2 F2 Q2 B4 F4 Q4 T4 B0 F0
  generalize w4.heap.size = g at *
  go_loopw [10] (fun k wr => ∃ (y : Nat) (yi : Int) (u : Value) (l : List S42), y ≤ H + 1 ∧ k = .int .i64 yi ∧ Hid (yi = (y : Int)) ∧ Hid (Below w.heap.size w wr) ∧ Hid (BoxAt wr w.heap.size 27 (.slice none 0 0) (.slice none 0 0)) ∧ Hid (BoxAt wr g 27 u (.slice A5 0 c5)) ∧ Hid (PR v0 v1 W (y * W) l) ∧ Hid (Kd.R k42 42 wr w.heap.size (fun _ => True) u l) ∧ Hid (Kd.S (Kd.slice 2 (Kd.int .i64)) 56 wr w.heap.size (fun _ => True) (.slice A5 0 c5) [])) (fun k _ => (H + 1) - (intOf k).toNat)
  case atStart => exact ⟨0, 0, _, [], Nat.zero_le _, rfl, Lib.hid rfl, BA, FA, GA, Lib.hid (by rw [Nat.zero_mul]; exact PR.zero _ _ _), QA, TA⟩
  case round =>
    clear BA FA GA QA TA
    obtain ⟨y, yi, u, l, hy, rfl, HYI, HB, HF, HG, HP, HR, HS⟩ := hrel
    by_cases hlt : y < H + 1
    · have y1 : yi ≤ a1 := by rw [HYI.out, HHI.out]; omega
      have y3 : yi < 9223372036854775807 := by rw [HYI.out]; omega
      have y4 : (0 : Int) ≤ yi := by rw [HYI.out]; omega
      go_wp2_with fail
      go_loopw [11] (fun k wr => ∃ (x : Nat) (xi : Int) (u : Value) (l : List S42), x ≤ W ∧ k = .int .i64 xi ∧ Hid (xi = (x : Int)) ∧ Hid (Below w.heap.size w wr) ∧ Hid (BoxAt wr w.heap.size 27 (.slice none 0 0) (.slice none 0 0)) ∧ Hid (BoxAt wr g 27 u (.slice A5 0 c5)) ∧ Hid (PR v0 v1 W (y * W + x) l) ∧ Hid (Kd.R k42 42 wr w.heap.size (fun _ => True) u l) ∧ Hid (Kd.S (Kd.slice 2 (Kd.int .i64)) 56 wr w.heap.size (fun _ => True) (.slice A5 0 c5) [])) (fun k _ => W - (intOf k).toNat)
      case atStart => exact ⟨0, 0, u, l, Nat.zero_le _, rfl, Lib.hid rfl, HB, HF, HG, HP, HR, HS⟩
      case round =>
        clear HB HF HG HP HR HS
        obtain ⟨x, xi, u, l, hx, rfl, HXI, HB, HF, HG, HP, HR, HS⟩ := hrel
        by_cases hxlt : x < W
        · have x1 : xi < a0 := by rw [HXI.out, HWI.out]; omega
          have x3 : xi < 9223372036854775807 := by rw [HXI.out]; omega
          have x4 : (0 : Int) ≤ xi := by rw [HXI.out]; omega
          have hll : Hid (l.length ≤ 16384) := Lib.hid (by rw [HP.out.len]; have := Nat.mul_le_mul_right W (show y ≤ 64 by omega); omega)
          go_wp2_with (first
            | (refine wpList_fbin (o := ⟨some 35, _, _, _, _, _⟩) rfl _ _ _ _ _ rfl (by decide) _ _ _ rfl rfl ?_; intro q0 nq0 hq0)
            | (refine wpList_fbin (o := ⟨some 38, _, _, _, _, _⟩) rfl _ _ _ _ _ rfl (by decide) _ _ _ rfl rfl ?_; intro r4 nr4 hr4)
            | (go_at_call 83; first | (have hk_ := B5; refine (spec_l01Sine _ hq0.lt _).mono ?_; rintro E w9 ⟨r9, rfl, hr9, n_, hw_⟩; have hv_ : Below w5.heap.size w5 w9 := (by rw [hw_]; exact pw_below_drewN (pw_below_drewN (Below.refl _ _) _) _); have B9 := Lib.hid (below_step B5.out hv_); have F9 := Lib.hid (F5.out.below hv_); have G9 := Lib.hid (G5.out.below hv_); have R9 := Lib.hid (Kd.R_below R5.out hv_); have T9 := Lib.hid (Kd.S_below T5.out hv_); clear hw_ hv_) | (refine (spec_l01Sine _ hr4.lt _).mono ?_; rintro E w5 ⟨r5, rfl, hr5, n_, hw_⟩; have hv_ : Below wr.heap.size wr w5 := (by rw [hw_]; exact pw_below_drewN (pw_below_drewN (Below.refl _ _) _) _); have B5 := Lib.hid (below_step HB.out hv_); have F5 := Lib.hid (HF.out.below hv_); have G5 := Lib.hid (HG.out.below hv_); have R5 := Lib.hid (Kd.R_below HR.out hv_); have T5 := Lib.hid (Kd.S_below HS.out hv_); clear hw_ hv_))
            | (refine wpList_fbin (o := ⟨some 40, _, _, _, _, _⟩) rfl _ _ _ _ _ rfl (by decide) _ _ _ rfl rfl ?_; intro r6 nr6 hr6)
            | (refine wpList_fbin (o := ⟨some 44, _, _, _, _, _⟩) rfl _ _ _ _ _ rfl (by decide) _ _ _ rfl rfl ?_; intro r10 n10_ hr10; obtain ⟨w10, hw_⟩ : ∃ W', W' = w9.drewN n10_ := ⟨_, rfl⟩; rw [← hw_]; have hv_ : Below w9.heap.size w9 w10 := (by rw [hw_]; exact pw_below_drewN (Below.refl _ _) _); have B10 := Lib.hid (below_step B9.out hv_); have F10 := Lib.hid (F9.out.below hv_); have G10 := Lib.hid (G9.out.below hv_); have R10 := Lib.hid (Kd.R_below R9.out hv_); have T10 := Lib.hid (Kd.S_below T9.out hv_); have hz10 : w10.heap.size = w9.heap.size := (by rw [hw_]; rfl); clear hw_ hv_)
            | (refine wpList_fbin (o := ⟨some 49, _, _, _, _, _⟩) rfl _ _ _ _ _ rfl (by decide) _ _ _ rfl rfl ?_; intro r14 n14_ hr14; obtain ⟨w14, hw14⟩ : ∃ W', W' = (w10.alloc (.cells #[.float .f32 r6, .float .f32 r10, .float .f32 0] 42)).drewN n14_ := ⟨_, rfl⟩; rw [← hw14]; have hx14 : w14.heap[w9.heap.size]? = some (.cells #[.float .f32 r6, .float .f32 r10, .float .f32 0] 42) := (by rw [hw14, ← hz10]; exact heap_alloc_new w10 _); have d_z := blk_frozen hx14 2; have d_2 : w14.cell? ⟨w9.heap.size, 2, none⟩ = some (.float .f32 0) := (blk_cell hx14 2).trans rfl; have hv_ : Below w10.heap.size w10 (w14.setCell ⟨w9.heap.size, 2, none⟩ (.float .f32 r14)) := (by rw [hw14]; exact below_set (pw_below_drewN (below_alloc (Below.refl _ _) _) _) (by show w10.heap.size ≤ w9.heap.size; omega)); have B15 := Lib.hid (below_step B10.out hv_); have F15 := Lib.hid (F10.out.below hv_); have hG_ := G10.out.below hv_; have G15 := Lib.hid hG_; have R15 := Lib.hid (Kd.R_below R10.out hv_); have T15 := Lib.hid (Kd.S_below T10.out hv_); have hx15 := blk_put hx14 2 (.float .f32 r14) rfl; have d_0 : (w14.setCell ⟨w9.heap.size, 2, none⟩ (.float .f32 r14)).cell? ⟨w9.heap.size, 0, none⟩ = some (.float .f32 r6) := (blk_cell hx15 0).trans rfl; have d_1 : (w14.setCell ⟨w9.heap.size, 2, none⟩ (.float .f32 r14)).cell? ⟨w9.heap.size, 1, none⟩ = some (.float .f32 r10) := (blk_cell hx15 1).trans rfl; have d_3 : (w14.setCell ⟨w9.heap.size, 2, none⟩ (.float .f32 r14)).cell? ⟨w9.heap.size, 2, none⟩ = some (.float .f32 r14) := (blk_cell hx15 2).trans rfl; have hg0 := hG_.c0; clear hw14 hv_ hx14 hx15 hG_)
            | ((with_reducible refine gate_builtin (b := .append) (xs := #[.tmp 52, .tmp 54]) rfl ?_); at_builtin; refine Kd.R_append k42 (w0 := w) w.heap.size rfl (.tmp 52) (.tmp 54) 24 42 (.agg #[(.float .f32 0), (.float .f32 0), (.float .f32 0)]) 12 rfl Try.underlying24 info42 rfl (by decide) (by omega) u l ⟨r6, r10, r14⟩ [.float .f32 r6, .float .f32 r10, .float .f32 r14] (fun _ => True) (fun _ => False) rfl (by first | (go_simp; done) | (go_simp; rfl)) ?aP (fun _ hk => hk.elim) ?aF ?aO ?aB ?aS ?aL ?_; (case aP => exact k42_mkM _ _ _ _); (case aB => exact B15.out); (case aF => exact (fun _ _ => trivial)); (case aO => exact R15.out); (case aS => exact below_size B15.out); (case aL => have := hll.out; omega); intro v1_ w1 ho hb hg_ hat
               have hG1 : BoxAt w1 g 27 u (.slice A5 0 c5) := blk_grown G15.out hg_ (Kd.R_ne R15.out G15.out (by decide))
               have F1 := Lib.hid (show BoxAt w1 w.heap.size 27 (.slice none 0 0) (.slice none 0 0) from blk_grown F15.out hg_ (Kd.R_ne R15.out F15.out (by decide)))
               have S1 := Lib.hid (Kd.S_over' T15.out (Kd.R_typed R15.out) (by decide) hg_)
               have hp6 : FR .f32 r6 (bin .mul .f32 (val .f32 v0) (sineTurnsV (bin .add .f32 (bin .quo .f32 (val .f32 (floatOfInt .f32 (x : Int))) (val .f32 (floatOfInt .f32 (W : Int)))) (val .f32 1048576000)))) := (by have h1_ := hr6; rw [hr5.val, hr4.val, hq0.val, HXI.out, HWI.out] at h1_; exact h1_)
               have hp10 : FR .f32 r10 (bin .mul .f32 (val .f32 v0) (sineTurnsV (bin .quo .f32 (val .f32 (floatOfInt .f32 (x : Int))) (val .f32 (floatOfInt .f32 (W : Int)))))) := (by have h1_ := hr10; rw [hr9.val, hq0.val, HXI.out, HWI.out] at h1_; exact h1_)
               have hp14 : FR .f32 r14 (bin .mul .f32 (val .f32 (floatOfInt .f32 (y : Int))) (val .f32 v1)) := (by have h1_ := hr14; rw [HYI.out] at h1_; exact h1_)
               have hps := HP.out.step hxlt hp6 hp10 hp14; obtain ⟨l2, hl2⟩ : ∃ l2, l2 = l ++ [(⟨r6, r10, r14⟩ : S42)] := ⟨_, rfl⟩; rw [← hl2] at ho hps; obtain ⟨Av, cv, rfl⟩ := Kd.R_slice ho; have G1 := Lib.hid hG1; have R1 := Lib.hid ho; have B1 := Lib.hid hb; have P1 := Lib.hid hps; have gs0 := hG1.c0; have gz0 := blk_frozen hG1 0; clear ho hb hg_ hat hG1 hg0 hps hp6 hp10 hp14 hl2 d_0 d_1 d_3 d_2 d_z)
            | fail)
          exact ⟨⟨x + 1, xi + 1, _, _, hxlt, by simp, Lib.hid (by rw [HXI.out]; omega), Lib.hid (below_set B1.out (by omega)), Lib.hid (blk_far F1.out (by show w.heap.size ≠ g; omega) _), Lib.hid (blk_put G1.out 0 _ rfl), P1, Lib.hid (R_boxset R1.out G1.out (by decide) 0 _), Lib.hid (Kd.S_set S1.out G1.out (by decide) 0 _)⟩, by have h1_ := HXI.out; simp [intOf]; omega⟩
        · obtain rfl : W = x := by omega
          have x1 : ¬ (xi < a0) := by rw [HXI.out, HWI.out]; omega
          go_wp2_with fail
          exact ⟨⟨y + 1, yi + 1, u, l, hlt, by simp, Lib.hid (by rw [HYI.out]; omega), HB, HF, HG, Lib.hid HP.out.row, HR, HS⟩, by have h1_ := HYI.out; simp [intOf]; omega⟩
    · obtain rfl : y = H + 1 := by omega
      have y1 : ¬ (yi ≤ a1) := by rw [HYI.out, HHI.out]; omega
      go_wp2_with fail
      clear y1 hlt hy
      go_loopw [14] (fun k wr => ∃ (y : Nat) (yi : Int) (vt : Value), y ≤ H ∧ k = .int .i64 yi ∧ Hid (yi = (y : Int)) ∧ Hid (Below w.heap.size w wr) ∧ Hid (BoxAt wr w.heap.size 27 (.slice none 0 0) (.slice none 0 0)) ∧ Hid (BoxAt wr g 27 u vt) ∧ Hid (Kd.R k42 42 wr w.heap.size (fun _ => True) u l) ∧ Hid (Kd.S (Kd.slice 2 (Kd.int .i64)) 56 wr w.heap.size (fun _ => True) vt (ringTn W (y * W)))) (fun k _ => H - (intOf k).toNat)
      case atStart => exact ⟨0, 0, _, Nat.zero_le _, rfl, Lib.hid rfl, HB, HF, HG, HR, Lib.hid (by rw [Nat.zero_mul]; exact HS.out)⟩
      case round =>
        clear HB HF HG HR HS
        obtain ⟨y, yi, vt, hy, rfl, HYI, HB, HF, HG, HR, HS⟩ := hrel
        by_cases hlt : y < H
        · have y1 : yi < a1 := by rw [HYI.out, HHI.out]; omega
          have y3 : yi < 9223372036854775807 := by rw [HYI.out]; omega
          have y4 : (0 : Int) ≤ yi := by rw [HYI.out]; omega
          go_wp2_with fail
          go_loopw [15] (fun k wr => ∃ (x : Nat) (xi : Int) (vt : Value), x ≤ W ∧ k = .int .i64 xi ∧ Hid (xi = (x : Int)) ∧ Hid (Below w.heap.size w wr) ∧ Hid (BoxAt wr w.heap.size 27 (.slice none 0 0) (.slice none 0 0)) ∧ Hid (BoxAt wr g 27 u vt) ∧ Hid (Kd.R k42 42 wr w.heap.size (fun _ => True) u l) ∧ Hid (Kd.S (Kd.slice 2 (Kd.int .i64)) 56 wr w.heap.size (fun _ => True) vt (ringTn W (y * W + x)))) (fun k _ => W - (intOf k).toNat)
          case atStart => exact ⟨0, 0, vt, Nat.zero_le _, rfl, Lib.hid rfl, HB, HF, HG, HR, HS⟩
          case round =>
            clear HB HF HG HR HS
            obtain ⟨x, xi, vt, hx, rfl, HXI, HB, HF, HG, HR, HS⟩ := hrel
            by_cases hxlt : x < W
            · have x1 : xi < a0 := by rw [HXI.out, HWI.out]; omega
              have x3 : xi < 9223372036854775807 := by rw [HXI.out]; omega
              have x4 : (0 : Int) ≤ xi := by rw [HXI.out]; omega
              have hg1 := HG.out.c1
              have hq1 : a0 * yi ≤ 16 * 64 := by rw [HWI.out, HYI.out, show (W : Int) * (y : Int) = ((W * y : Nat) : Int) by push_cast; rfl]; show _ ≤ ((16 * 64 : Nat) : Int); exact Int.ofNat_le.2 (Nat.mul_le_mul (by omega) (by omega))
              have hq0 : 0 ≤ a0 * yi := by rw [HWI.out, HYI.out, show (W : Int) * (y : Int) = ((W * y : Nat) : Int) by push_cast; rfl]; exact Int.natCast_nonneg _
              obtain ⟨m, hm⟩ : ∃ m, m = a0 * yi := ⟨_, rfl⟩
              rw [← hm] at hq1 hq0
              obtain ⟨m2, hm2⟩ : ∃ m2 : Int, m2 = (((x + 1) % W : Nat) : Int) := ⟨_, rfl⟩
              have hm3 : 0 ≤ m2 := by rw [hm2]; exact Int.natCast_nonneg _
              have hm4 : m2 ≤ 16 := by rw [hm2]; exact Int.ofNat_le.2 (Nat.le_trans (Nat.le_of_lt (Nat.mod_lt _ (by omega))) W16)
              have et : Int.tmod (xi + 1) a0 = m2 := by rw [hm2, HXI.out, HWI.out]; exact tmod_nat x W
              have x5 : xi ≤ 16 := by rw [HXI.out]; omega
              have ew3 : wrap64 (xi + m) = xi + m := Msh.wrap_fit (by omega) (by omega)
              have ei1 : wrap64 (m2 + m) = m2 + m := Msh.wrap_fit (by omega) (by omega)
              have ei2 : wrap64 (m2 + m + a0) = m2 + m + a0 := Msh.wrap_fit (by omega) (by omega)
              have ei3 : wrap64 (xi + m + a0) = xi + m + a0 := Msh.wrap_fit (by omega) (by omega)
              have ei4 : wrap64 (xi + 1) = xi + 1 := Msh.wrap_fit (by omega) (by omega)
              have ew2 : wrap64 (a0 * yi) = m := by rw [← hm]; exact Msh.wrap_fit (by omega) (by omega)
              have hTD : triD W x y = [xi + m, m2 + m, m2 + m + a0] := by rw [hm, hm2, HXI.out, HYI.out, HWI.out]; rfl
              have hTE : triE W x y = [xi + m, m2 + m + a0, xi + m + a0] := by rw [hm, hm2, HXI.out, HYI.out, HWI.out]; rfl
              have hts := ringTn_step W x y hxlt
              rw [hTD, hTE] at hts
              have HTS := Lib.hid hts
              have hll : Hid ((ringTn W (y * W + x)).length ≤ 16384) := Lib.hid (by rw [ringTn_len]; have := Nat.mul_le_mul_right W (show y ≤ 64 by omega); omega)
              have hz1 : ¬ a0 = 0 := by omega
              have hz2 : (a0 == 0) = false := by simpa using hz1
              clear hts hTD hTE hm hm2
              go_wp2_with (first
                | ((with_reducible refine gate_dst (N := 87) rfl ?_); refine Kd.R_lit (Kd.int .i64) _ 2 ?hg (N := 87) ?hd (xs := ([xi + m, m2 + m, m2 + m + a0] : List Int)) (inner := [.int .i64 (xi + m), .int .i64 (m2 + m), .int .i64 (m2 + m + a0)]) (ok := fun _ => True) (okp := fun _ => True) ?hr ?hp (fun _ hk => hk) trivial (Below.refl _ _) (Nat.le_refl _) (by simp) ?_; (case hd => rfl); (case hg => rfl); (case hr => first | (go_simp; done) | (go_simp; rfl)); (case hp => exact (Reps.one (show Kd.M (Kd.int .i64) _ _ _ (xi + m) [.int .i64 (xi + m)] from rfl) (Reps.one (show Kd.M (Kd.int .i64) _ _ _ (m2 + m) [.int .i64 (m2 + m)] from rfl) (Reps.one (show Kd.M (Kd.int .i64) _ _ _ (m2 + m + a0) [.int .i64 (m2 + m + a0)] from rfl) (Reps.none _ _))))); intro va wa ho hb hg_ hnew_; clear hg_ hnew_; obtain ⟨Aa, ca, rfl⟩ := Kd.R_slice ho; have B2_ := Lib.hid (below_step HB.out hb); have F2_ := Lib.hid (HF.out.below hb); have G2_ := Lib.hid (HG.out.below hb); have R2_ := Lib.hid (Kd.R_below HR.out hb); have S2_ := Lib.hid (Kd.S_elder' HS.out (Kd.R_base ho) hb); have L2 := Lib.hid (Kd.R_lower ho (below_size HB.out)); have LB2 := Lib.hid (Kd.R_bound ho); clear ho hb hg1)
                | ((with_reducible refine gate_dst (N := 95) rfl ?_); refine Kd.R_lit (Kd.int .i64) _ 2 ?hg (N := 95) ?hd (xs := ([xi + m, m2 + m + a0, xi + m + a0] : List Int)) (inner := [.int .i64 (xi + m), .int .i64 (m2 + m + a0), .int .i64 (xi + m + a0)]) (ok := fun _ => True) (okp := fun _ => True) ?hr ?hp (fun _ hk => hk) trivial (Below.refl _ _) (Nat.le_refl _) (by simp) ?_; (case hd => rfl); (case hg => rfl); (case hr => first | (go_simp; done) | (go_simp; rfl)); (case hp => exact (Reps.one (show Kd.M (Kd.int .i64) _ _ _ (xi + m) [.int .i64 (xi + m)] from rfl) (Reps.one (show Kd.M (Kd.int .i64) _ _ _ (m2 + m + a0) [.int .i64 (m2 + m + a0)] from rfl) (Reps.one (show Kd.M (Kd.int .i64) _ _ _ (xi + m + a0) [.int .i64 (xi + m + a0)] from rfl) (Reps.none _ _))))); intro vc wc ho hb hg_ hnew_; clear hg_ hnew_; obtain ⟨Ac, cc, rfl⟩ := Kd.R_slice ho; have B3_ := Lib.hid (below_step B2_.out hb); have F3_ := Lib.hid (F2_.out.below hb); have G3_ := Lib.hid (G2_.out.below hb); have R3_ := Lib.hid (Kd.R_below R2_.out hb); have S3_ := Lib.hid (Kd.S_elder' S2_.out (Kd.R_base ho) hb); have L3 := Lib.hid (Kd.R_below L2.out hb); have M3 := Lib.hid (Kd.R_lower ho (below_size B2_.out)); have D3 := Lib.hid (show ∀ k, some k = (Value.slice Aa 3 ca).ownBlock → ¬ some k = (Value.slice Ac 3 cc).ownBlock from fun k h1 h2 => by have := (LB2.out.1 k h1.symm).2.2.1; have := Kd.R_base ho k h2.symm; omega); clear ho hb)
                | ((with_reducible refine gate_builtin (b := .append) (xs := #[.tmp 81, .tmp 96]) rfl ?_); at_builtin; refine S_append2 (Kd.slice 2 (Kd.int .i64)) rfl (w0 := w) w.heap.size rfl (.tmp 81) (.tmp 96) 25 56 (.slice none 0 0) 24 rfl Try.underlying25 info56 rfl (by omega) vt (ringTn W (y * W + x)) [xi + m, m2 + m, m2 + m + a0] [xi + m, m2 + m + a0, xi + m + a0] (.slice Aa 3 ca) (.slice Ac 3 cc) wc.heap.size (fun _ => True) (fun k_ => some k_ = (.slice Aa 3 ca : Value).ownBlock) (fun k_ => some k_ = (.slice Ac 3 cc : Value).ownBlock) rfl (by first | (go_simp; done) | (go_simp; rfl)) ?aC ?aD ?aP ?aQ ?aN ?aM D3.out ?aF ?aO ?aB ?aS ?aL ?_
                   (case aC => exact (blk_cell (heap_alloc_new wc (.cells #[.slice Aa 3 ca, .slice Ac 3 cc] 56)) 0).trans rfl); (case aD => exact (blk_cell (heap_alloc_new wc (.cells #[.slice Aa 3 ca, .slice Ac 3 cc] 56)) 1).trans rfl)
                   (case aP => exact Kd.M_row (Kd.R_alloc (Kd.R_mono (Kd.R_tight rfl (Kd.R_mono (ok' := fun k_ => ((fun _ => True)) k_ ∧ some k_ ≠ (vt : Value).ownBlock) (Kd.R_apart' (L3.out) (Kd.S_typed S3_.out) (by decide)) (fun k_ hk => ⟨trivial, hk.2⟩))) (fun _ h_ => h_)) (.cells #[.slice Aa 3 ca, .slice Ac 3 cc] 56))); (case aQ => exact Kd.M_row (Kd.R_alloc (Kd.R_mono (Kd.R_tight rfl (Kd.R_mono (ok' := fun k_ => ((fun _ => True)) k_ ∧ some k_ ≠ (vt : Value).ownBlock) (Kd.R_apart' (M3.out) (Kd.S_typed S3_.out) (by decide)) (fun k_ hk => ⟨trivial, hk.2⟩))) (fun _ h_ => h_)) (.cells #[.slice Aa 3 ca, .slice Ac 3 cc] 56)))
                   (case aN => exact fun k_ hk_ => ((Kd.R_mono (ok' := fun k_ => ((fun _ => True)) k_ ∧ some k_ ≠ (vt : Value).ownBlock) (Kd.R_apart' (L3.out) (Kd.S_typed S3_.out) (by decide)) (fun k_ hk => ⟨trivial, hk.2⟩))).1 k_ hk_.symm); (case aM => exact fun k_ hk_ => ((Kd.R_mono (ok' := fun k_ => ((fun _ => True)) k_ ∧ some k_ ≠ (vt : Value).ownBlock) (Kd.R_apart' (M3.out) (Kd.S_typed S3_.out) (by decide)) (fun k_ hk => ⟨trivial, hk.2⟩))).1 k_ hk_.symm)
                   (case aF => exact (fun _ _ => trivial)); (case aB => exact below_alloc B3_.out (.cells #[.slice Aa 3 ca, .slice Ac 3 cc] 56)); (case aS => exact Nat.le_trans (below_size B3_.out) (Nat.le_of_lt (blk_lt (heap_alloc_new wc (.cells #[.slice Aa 3 ca, .slice Ac 3 cc] 56))))); (case aL => have := hll.out; omega)
                   (case aO => exact Kd.S_alloc (Kd.S_mono S3_.out (fun k_ hk => ⟨trivial, fun e_ => hk.1.2 e_, fun e_ => hk.2 e_⟩)) (.cells #[.slice Aa 3 ca, .slice Ac 3 cc] 56))
                   intro v9 w4_ ho hb hg_ hat
                   have hW : Below wc.heap.size wc (wc.alloc (.cells #[.slice Aa 3 ca, .slice Ac 3 cc] 56)) := below_alloc (Below.refl _ _) _
                   have hG4 : BoxAt w4_ g 27 u vt := blk_grown (G3_.out.below hW) hg_ (Kd.S_ne S3_.out G3_.out (by decide))
                   have F4_ := Lib.hid (show BoxAt w4_ (w.heap.size) 27 (.slice none 0 0) (.slice none 0 0) from blk_grown (F3_.out.below hW) hg_ (Kd.S_ne S3_.out F3_.out (by decide)))
                   have R4_ := Lib.hid (Kd.R_over' (Kd.R_below R3_.out hW) (Kd.S_typed (Kd.S_below S3_.out hW)) (by decide) hg_)
                   rw [← HTS.out] at ho
                   obtain ⟨Av, cv, rfl⟩ := Kd.S_slice ho
                   have G4_ := Lib.hid hG4; have S4_ := Lib.hid ho; have B4_ := Lib.hid hb; have gs1 := hG4.c1; have gz1 := blk_frozen hG4 1; clear ho hb hg_ hat hW hG4)
                | fail)
              exact ⟨⟨x + 1, xi + 1, _, hxlt, by simp, Lib.hid (by rw [HXI.out]; omega), Lib.hid (below_set B4_.out (by omega)), Lib.hid (blk_far F4_.out (by show w.heap.size ≠ g; omega) _), Lib.hid (blk_put G4_.out 1 _ rfl), Lib.hid (R_boxset R4_.out G4_.out (by decide) 1 _), Lib.hid (Kd.S_set S4_.out G4_.out (by decide) 1 _)⟩, by have h1_ := HXI.out; simp [intOf]; omega⟩
            · obtain rfl : W = x := by omega
              have x1 : ¬ (xi < a0) := by rw [HXI.out, HWI.out]; omega
              go_wp2_with fail
              exact ⟨⟨y + 1, yi + 1, vt, hlt, by simp, Lib.hid (by rw [HYI.out]; omega), HB, HF, HG, HR, Lib.hid (by rw [Nat.succ_mul]; exact HS.out)⟩, by have h1_ := HYI.out; simp [intOf]; omega⟩
        · obtain rfl : H = y := by omega
          have y1 : ¬ (yi < a1) := by rw [HYI.out, HHI.out]; omega
          have gd0 := HG.out.c0
          have gd1 := HG.out.c1
          have f0 := HF.out.c0
          have f1 := HF.out.c1
          have z0 := blk_frozen HF.out 0
          have z1 := blk_frozen HF.out 1
          have hsp : simP l (ringP W H v0 v1) := HP.out
          have hS : Kd.S (Kd.slice 2 (Kd.int .i64)) 56 wr w.heap.size (fun _ => True) vt (ringT W H) := HS.out
          have hR := HR.out
          obtain ⟨Ar, cr, eu⟩ := Kd.R_slice hR
          obtain ⟨At, ct, rfl⟩ := Kd.S_slice hS
          rw [hsp.1] at eu
          subst eu
          have HR9 := Lib.hid hR; have HS9 := Lib.hid hS; have HSP := Lib.hid hsp
          clear hsp hS hR HP HR HS
          generalize ringP W H v0 v1 = P at *
          generalize ringT W H = Tn at *
          go_wp2_with fail
          ((try simp only [Exit.inBlock, Exit.then]); refine bodyPost_ret (by simp [results, Try.results40, go_sem, f0, f1, setCell_same_of, World.cell?_setCell_other]; try rfl) rfl ?_)
          exact ⟨l, Ar, cr, At, ct, HSP.out, rfl, ⟨R_in (R_boxset (R_boxset HR9.out HF.out (by decide) 0 _) (blk_put HF.out 0 _ rfl) (by decide) 1 _), S_in (Kd.S_set (Kd.S_set HS9.out HF.out (by decide) 0 _) (blk_put HF.out 0 _ rfl) (by decide) 1 _)⟩, below_set (below_set HB.out (Nat.le_refl _)) (Nat.le_refl _)⟩

theorem spec_l02Give_r (P P1 : List S42) (T : List (List Int)) (hs : simP P1 P) (A B : Option Addr) (c e : Nat) (W : World) (hx : ReadM W A c P1 B e T) :
    Calls Try.prog 57 #[.agg #[.slice A P.length c, .slice B T.length e]] W fun E w' => E = .returned (.tuple #[giveV (validB P.length T) (.slice A P.length c) (.slice B T.length e), .bool (validB P.length T)]) ∧ Below W.heap.size W w' := by
  have h := spec_l02Give A c P1 B e T W hx.2.2.1 hx.2.2.2
  rw [hs.1] at h
  exact h

set_option maxHeartbeats 8000000 in
set_option maxRecDepth 100000 in
theorem spec_RingMesh (a0 a1 : Int) (v0 v1 : Nat) (w : World) :
    Calls Try.prog 19 #[.int .i64 a0, .int .i64 a1, .float .f32 v0, .float .f32 v1] w (AnsMs w (ringR a0 a1 v0 v1).1 (ringR a0 a1 v0 v1).2.1 (ringR a0 a1 v0 v1).2.2) := by
  have B0 := Lib.hid (below_alloc (Below.refl w.heap.size w) (.cells #[.slice none 0 0, .slice none 0 0] 27))
  have F0 := Lib.hid (BoxAt.new w 27 (.slice none 0 0) (.slice none 0 0))
  have HW := Lib.hid (fun (W' : World) => spec_l00In.calls a0 3 16 (decide (3 ≤ a0 ∧ a0 ≤ 16)) W' (bounds_g a0 3 16))
  have HH := Lib.hid (fun (W' : World) => spec_l00In.calls a1 1 64 (decide (1 ≤ a1 ∧ a1 ≤ 64)) W' (bounds_g a1 1 64))
  by_cases hw : 3 ≤ a0 ∧ a0 ≤ 16
  · rw [decide_eq_true hw] at HW
    by_cases hh : 1 ≤ a1 ∧ a1 ≤ 64
    · rw [decide_eq_true hh] at HH
      by_cases hs0 : G8.sizeB v0 = true
      · have HS0 := Lib.hid hs0
        by_cases hs1 : G8.sizeB v1 = true
        · have HS1 := Lib.hid hs1
          have hr : ringR a0 a1 v0 v1 = joinV (ringP a0.toNat a1.toNat v0 v1) (ringT a0.toNat a1.toNat) := by unfold ringR; rw [if_pos (by unfold ringOk; rw [decide_eq_true hw, decide_eq_true hh, hs0, hs1]; rfl)]
          rw [hr]
          obtain ⟨hw1, hw2⟩ := hw
          obtain ⟨hh1, hh2⟩ := hh
          obtain ⟨W, hWI⟩ : ∃ W : Nat, a0 = (W : Int) := ⟨a0.toNat, by omega⟩
          obtain ⟨H, hHI⟩ : ∃ H : Nat, a1 = (H : Int) := ⟨a1.toNat, by omega⟩
          have HWI := Lib.hid hWI; have HHI := Lib.hid hHI
          have htw : a0.toNat = W := by omega
          have hth : a1.toNat = H := by omega
          rw [htw, hth]
          have W16 : W ≤ 16 := by omega
          have W3 : 3 ≤ W := by omega
          have H64 : H ≤ 64 := by omega
          have eh : wrap64 (a1 + 1) = a1 + 1 := Msh.wrap_fit (by omega) (by omega)
          clear hr hs0 hs1 hWI hHI htw hth
          have hmn : a0 * (a1 + 1) = ((W * (H + 1) : Nat) : Int) := by rw [HWI.out, HHI.out]; push_cast; rfl
          have hmu : W * (H + 1) ≤ 16 * 65 := Nat.mul_le_mul W16 (by omega)
          obtain ⟨m, hm⟩ : ∃ m : Int, m = a0 * (a1 + 1) := ⟨_, rfl⟩
          obtain ⟨M9, hM9⟩ : ∃ M9 : Nat, M9 = W * (H + 1) := ⟨_, rfl⟩
          rw [← hm, ← hM9] at hmn
          rw [← hM9] at hmu
          have em : wrap64 (a0 * (a1 + 1)) = m := by rw [← hm]; exact Msh.wrap_fit (by omega) (by omega)
          by_cases hp : (64 : Int) < m
          · have hp2 : decide ((64 : Int) < m) = true := decide_eq_true hp
            have hvn : validB (ringP W H v0 v1).length (ringT W H) = false := by
              refine Bool.eq_false_iff.2 fun h => ?_
              have h64 := (valid_rows h).1
              have hl9 : (ringP W H v0 v1).length = (H + 1) * W := by unfold ringP; rw [List.length_map, List.length_range]
              rw [hl9, Nat.mul_comm, ← hM9] at h64
              omega
            rw [show joinV (ringP W H v0 v1) (ringT W H) = ([], [], false) by unfold joinV; rw [hvn]; rfl]
            clear hvn hmn hmu hm hM9
            go_enter Try.func19, Try.ntmps19
            go_wp2_with (first
                        | (go_at_call 55; first | (have hb1 := B1.out; refine (HH.out _).mono ?_; rintro E w2 ⟨rfl, hd⟩; have B2 := Lib.hid (below_step B1.out hd.below); have F2 := Lib.hid (F1.out.below hd.below); clear hd hb1; skip) | (refine (HW.out _).mono ?_; rintro E w1 ⟨rfl, hd⟩; have B1 := Lib.hid (below_step B0.out hd.below); have F1 := Lib.hid (F0.out.below hd.below); clear hd; skip))
                        | (go_at_call 56; first | (have hb3 := B3.out; refine (G8.spec_l02Size _ _).mono ?_; rw [HS1.out]; rintro E w4 ⟨rfl, n, e4_⟩; have hn : Below w3.heap.size w3 w4 := (by rw [e4_]; exact pw_below_drewN (Below.refl w3.heap.size w3) n); clear e4_; have B4 := Lib.hid (below_step B3.out hn); have F4 := Lib.hid (F3.out.below hn); clear hn hb3; have hFe := F4.out; have f0 := hFe.c0; have f1 := hFe.c1; have z0 := blk_frozen hFe 0; have z1 := blk_frozen hFe 1; clear hFe; skip) | (refine (G8.spec_l02Size _ _).mono ?_; rw [HS0.out]; rintro E w3 ⟨rfl, n, e3_⟩; have hn : Below w2.heap.size w2 w3 := (by rw [e3_]; exact pw_below_drewN (Below.refl w2.heap.size w2) n); clear e3_; have B3 := Lib.hid (below_step B2.out hn); have F3 := Lib.hid (F2.out.below hn); clear hn; skip))
                        | fail)
            ((try simp only [Exit.inBlock, Exit.then]); refine bodyPost_ret (by simp [results, Try.results19, go_sem, f0, f1, setCell_same_of, World.cell?_setCell_other]; try rfl) rfl ?_)
            exact ⟨[], none, 0, none, 0, simP_nil, rfl, ⟨Kd.R_nil _ _ _ _ _, Kd.S_nil _ _ _ _ _⟩, below_set (below_set B4.out (Nat.le_refl _)) (Nat.le_refl _)⟩
          · have hp2 : decide ((64 : Int) < m) = false := decide_eq_false hp
            clear hmn hmu hm hM9
            have HGR := Lib.hid (fun (W' : World) => spec_l02Ring W H v0 v1 a0 a1 HWI HHI W3 W16 H64 W')
            have HGV := Lib.hid (fun (P1 : List S42) (hs : simP P1 (ringP W H v0 v1)) (A B : Option Addr) (c e : Nat) (W' : World) (hx : ReadM W' A c P1 B e (ringT W H)) => spec_l02Give_r (ringP W H v0 v1) P1 (ringT W H) hs A B c e W' hx)
            generalize ringP W H v0 v1 = P at *
            generalize ringT W H = Tn at *
            go_enter Try.func19, Try.ntmps19
            cases hv9 : validB P.length Tn
            · rw [hv9] at HGV
              go_wp2_with (first
                        | (go_at_call 55; first | (have hb1 := B1.out; refine (HH.out _).mono ?_; rintro E w2 ⟨rfl, hd⟩; have B2 := Lib.hid (below_step B1.out hd.below); have F2 := Lib.hid (F1.out.below hd.below); clear hd hb1; skip) | (refine (HW.out _).mono ?_; rintro E w1 ⟨rfl, hd⟩; have B1 := Lib.hid (below_step B0.out hd.below); have F1 := Lib.hid (F0.out.below hd.below); clear hd; skip))
                        | (go_at_call 56; first | (have hb3 := B3.out; refine (G8.spec_l02Size _ _).mono ?_; rw [HS1.out]; rintro E w4 ⟨rfl, n, e4_⟩; have hn : Below w3.heap.size w3 w4 := (by rw [e4_]; exact pw_below_drewN (Below.refl w3.heap.size w3) n); clear e4_; have B4 := Lib.hid (below_step B3.out hn); have F4 := Lib.hid (F3.out.below hn); clear hn hb3; skip) | (refine (G8.spec_l02Size _ _).mono ?_; rw [HS0.out]; rintro E w3 ⟨rfl, n, e3_⟩; have hn : Below w2.heap.size w2 w3 := (by rw [e3_]; exact pw_below_drewN (Below.refl w2.heap.size w2) n); clear e3_; have B3 := Lib.hid (below_step B2.out hn); have F3 := Lib.hid (F2.out.below hn); clear hn; skip))
                        | (go_at_call 40; refine (HGR.out _).mono ?_; rintro E w5 ⟨P1, Ar, cr, At, ct, hs, rfl, hx, hb⟩; have B5 := Lib.hid (below_step B4.out hb); have F5 := Lib.hid (F4.out.below hb); have X5 := Lib.hid hx; have S5 := Lib.hid hs; clear hx hb hs)
                        | (go_at_call 57; refine (HGV.out _ S5.out _ _ _ _ _ (OwnM.readn S5.out X5.out)).mono ?_; rintro E w6 ⟨rfl, hb⟩; have B6 := Lib.hid (below_step B5.out hb); have hF6 := F5.out.below hb; have f0 := hF6.c0; have f1 := hF6.c1; have z0 := blk_frozen hF6 0; have z1 := blk_frozen hF6 1; clear hb; (try simp only [giveV, Bool.false_eq_true, if_false, if_true]))
                        | fail)
              ((try simp only [Exit.inBlock, Exit.then]); refine bodyPost_ret (by simp [results, Try.results19, go_sem, f0, f1, setCell_same_of, World.cell?_setCell_other]; try rfl) rfl ?_)
              rw [show joinV P Tn = ([], [], false) by unfold joinV; rw [hv9]; rfl]
              exact ⟨[], none, 0, none, 0, simP_nil, rfl, ⟨Kd.R_nil _ _ _ _ _, Kd.S_nil _ _ _ _ _⟩, below_set (below_set B6.out (Nat.le_refl _)) (Nat.le_refl _)⟩
            · rw [hv9] at HGV
              go_wp2_with (first
                        | (go_at_call 55; first | (have hb1 := B1.out; refine (HH.out _).mono ?_; rintro E w2 ⟨rfl, hd⟩; have B2 := Lib.hid (below_step B1.out hd.below); have F2 := Lib.hid (F1.out.below hd.below); clear hd hb1; skip) | (refine (HW.out _).mono ?_; rintro E w1 ⟨rfl, hd⟩; have B1 := Lib.hid (below_step B0.out hd.below); have F1 := Lib.hid (F0.out.below hd.below); clear hd; skip))
                        | (go_at_call 56; first | (have hb3 := B3.out; refine (G8.spec_l02Size _ _).mono ?_; rw [HS1.out]; rintro E w4 ⟨rfl, n, e4_⟩; have hn : Below w3.heap.size w3 w4 := (by rw [e4_]; exact pw_below_drewN (Below.refl w3.heap.size w3) n); clear e4_; have B4 := Lib.hid (below_step B3.out hn); have F4 := Lib.hid (F3.out.below hn); clear hn hb3; skip) | (refine (G8.spec_l02Size _ _).mono ?_; rw [HS0.out]; rintro E w3 ⟨rfl, n, e3_⟩; have hn : Below w2.heap.size w2 w3 := (by rw [e3_]; exact pw_below_drewN (Below.refl w2.heap.size w2) n); clear e3_; have B3 := Lib.hid (below_step B2.out hn); have F3 := Lib.hid (F2.out.below hn); clear hn; skip))
                        | (go_at_call 40; refine (HGR.out _).mono ?_; rintro E w5 ⟨P1, Ar, cr, At, ct, hs, rfl, hx, hb⟩; have hl3 := B4.out.size; have B5 := Lib.hid (below_step B4.out hb); have F5 := Lib.hid (F4.out.below hb); have X5 := Lib.hid hx; have S5 := Lib.hid hs; clear hx hb hs)
                        | (go_at_call 57; refine (HGV.out _ S5.out _ _ _ _ _ (OwnM.readn S5.out X5.out)).mono ?_; rintro E w6 ⟨rfl, hb⟩; have B6 := Lib.hid (below_step B5.out hb); have X6 := Lib.hid (X5.out.below hb); have hF6 := F5.out.below hb; have F6 := Lib.hid hF6; have f0 := hF6.c0; have f1 := hF6.c1; have z0 := blk_frozen hF6 0; have z1 := blk_frozen hF6 1; clear hb hF6; (try simp only [giveV, Bool.false_eq_true, if_false, if_true]))
                        | fail)
              ((try simp only [Exit.inBlock, Exit.then]); refine bodyPost_ret (by simp [results, Try.results19, go_sem, f0, f1, setCell_same_of, World.cell?_setCell_other]; try rfl) rfl ?_)
              rw [show joinV P Tn = (P, Tn, true) by unfold joinV; rw [hv9]; rfl]
              exact ⟨P1, Ar, cr, At, ct, S5.out, rfl, ⟨R_in (Kd.R_lower (R_boxset (R_boxset (Kd.R_mono X6.out.1 (fun _ _ => trivial)) F6.out (by decide) 0 _) (blk_put F6.out 0 _ rfl) (by decide) 1 _) (by exact hl3)), S_in (Kd.S_lower (Kd.S_set (Kd.S_set (Kd.S_mono X6.out.2 (fun _ _ => trivial)) F6.out (by decide) 0 _) (blk_put F6.out 0 _ rfl) (by decide) 1 _) (by exact hl3))⟩, below_set (below_set B6.out (Nat.le_refl _)) (Nat.le_refl _)⟩
        · have HS1 := Lib.hid (Bool.eq_false_iff.2 hs1)
          have hr : ringR a0 a1 v0 v1 = ([], [], false) := by unfold ringR; rw [if_neg (by unfold ringOk; rw [Bool.eq_false_iff.2 hs1, Bool.and_false]; simp)]
          rw [hr]
          clear hr hw hh hs0 hs1
          go_enter Try.func19, Try.ntmps19
          go_wp2_with (first
              | (go_at_call 55; first | (have hb1 := B1.out; refine (HH.out _).mono ?_; rintro E w2 ⟨rfl, hd⟩; have B2 := Lib.hid (below_step B1.out hd.below); have F2 := Lib.hid (F1.out.below hd.below); clear hd hb1; skip) | (refine (HW.out _).mono ?_; rintro E w1 ⟨rfl, hd⟩; have B1 := Lib.hid (below_step B0.out hd.below); have F1 := Lib.hid (F0.out.below hd.below); clear hd; skip))
              | (go_at_call 56; first | (have hb3 := B3.out; refine (G8.spec_l02Size _ _).mono ?_; rw [HS1.out]; rintro E w4 ⟨rfl, n, e4_⟩; have hn : Below w3.heap.size w3 w4 := (by rw [e4_]; exact pw_below_drewN (Below.refl w3.heap.size w3) n); clear e4_; have B4 := Lib.hid (below_step B3.out hn); have F4 := Lib.hid (F3.out.below hn); clear hn hb3; have hFe := F4.out; have f0 := hFe.c0; have f1 := hFe.c1; have z0 := blk_frozen hFe 0; have z1 := blk_frozen hFe 1; clear hFe; skip) | (refine (G8.spec_l02Size _ _).mono ?_; rw [HS0.out]; rintro E w3 ⟨rfl, n, e3_⟩; have hn : Below w2.heap.size w2 w3 := (by rw [e3_]; exact pw_below_drewN (Below.refl w2.heap.size w2) n); clear e3_; have B3 := Lib.hid (below_step B2.out hn); have F3 := Lib.hid (F2.out.below hn); clear hn; skip))
              | fail)
          ((try simp only [Exit.inBlock, Exit.then]); refine bodyPost_ret (by simp [results, Try.results19, go_sem, f0, f1, setCell_same_of, World.cell?_setCell_other]; try rfl) rfl ?_)
          exact ⟨[], none, 0, none, 0, simP_nil, rfl, ⟨Kd.R_nil _ _ _ _ _, Kd.S_nil _ _ _ _ _⟩, below_set (below_set B4.out (Nat.le_refl _)) (Nat.le_refl _)⟩
      · have HS0 := Lib.hid (Bool.eq_false_iff.2 hs0)
        have hr : ringR a0 a1 v0 v1 = ([], [], false) := by unfold ringR; rw [if_neg (by unfold ringOk; rw [Bool.eq_false_iff.2 hs0, Bool.and_false, Bool.false_and]; simp)]
        rw [hr]
        clear hr hw hh hs0
        go_enter Try.func19, Try.ntmps19
        go_wp2_with (first
              | (go_at_call 55; first | (have hb1 := B1.out; refine (HH.out _).mono ?_; rintro E w2 ⟨rfl, hd⟩; have B2 := Lib.hid (below_step B1.out hd.below); have F2 := Lib.hid (F1.out.below hd.below); clear hd hb1; skip) | (refine (HW.out _).mono ?_; rintro E w1 ⟨rfl, hd⟩; have B1 := Lib.hid (below_step B0.out hd.below); have F1 := Lib.hid (F0.out.below hd.below); clear hd; skip))
              | (go_at_call 56; refine (G8.spec_l02Size _ _).mono ?_; rw [HS0.out]; rintro E w3 ⟨rfl, n, e3_⟩; have hn : Below w2.heap.size w2 w3 := (by rw [e3_]; exact pw_below_drewN (Below.refl w2.heap.size w2) n); clear e3_; have B3 := Lib.hid (below_step B2.out hn); have F3 := Lib.hid (F2.out.below hn); clear hn; have hFe := F3.out; have f0 := hFe.c0; have f1 := hFe.c1; have z0 := blk_frozen hFe 0; have z1 := blk_frozen hFe 1; clear hFe; skip)
              | fail)
        ((try simp only [Exit.inBlock, Exit.then]); refine bodyPost_ret (by simp [results, Try.results19, go_sem, f0, f1, setCell_same_of, World.cell?_setCell_other]; try rfl) rfl ?_)
        exact ⟨[], none, 0, none, 0, simP_nil, rfl, ⟨Kd.R_nil _ _ _ _ _, Kd.S_nil _ _ _ _ _⟩, below_set (below_set B3.out (Nat.le_refl _)) (Nat.le_refl _)⟩
    · rw [decide_eq_false hh] at HH
      have hr : ringR a0 a1 v0 v1 = ([], [], false) := by unfold ringR; rw [if_neg (by unfold ringOk; rw [decide_eq_false hh, Bool.and_false, Bool.false_and, Bool.false_and]; simp)]
      rw [hr]
      clear hr hw hh
      go_enter Try.func19, Try.ntmps19
      go_wp2_with (first
              | (go_at_call 55; first | (have hb1 := B1.out; refine (HH.out _).mono ?_; rintro E w2 ⟨rfl, hd⟩; have B2 := Lib.hid (below_step B1.out hd.below); have F2 := Lib.hid (F1.out.below hd.below); clear hd hb1; have hFe := F2.out; have f0 := hFe.c0; have f1 := hFe.c1; have z0 := blk_frozen hFe 0; have z1 := blk_frozen hFe 1; clear hFe; skip) | (refine (HW.out _).mono ?_; rintro E w1 ⟨rfl, hd⟩; have B1 := Lib.hid (below_step B0.out hd.below); have F1 := Lib.hid (F0.out.below hd.below); clear hd; skip))
              | fail)
      ((try simp only [Exit.inBlock, Exit.then]); refine bodyPost_ret (by simp [results, Try.results19, go_sem, f0, f1, setCell_same_of, World.cell?_setCell_other]; try rfl) rfl ?_)
      exact ⟨[], none, 0, none, 0, simP_nil, rfl, ⟨Kd.R_nil _ _ _ _ _, Kd.S_nil _ _ _ _ _⟩, below_set (below_set B2.out (Nat.le_refl _)) (Nat.le_refl _)⟩
  · rw [decide_eq_false hw] at HW
    have hr : ringR a0 a1 v0 v1 = ([], [], false) := by unfold ringR; rw [if_neg (by unfold ringOk; rw [decide_eq_false hw, Bool.false_and, Bool.false_and, Bool.false_and]; simp)]
    rw [hr]
    clear hr hw
    go_enter Try.func19, Try.ntmps19
    go_wp2_with (first
              | (go_at_call 55; refine (HW.out _).mono ?_; rintro E w1 ⟨rfl, hd⟩; have B1 := Lib.hid (below_step B0.out hd.below); have F1 := Lib.hid (F0.out.below hd.below); clear hd; have hFe := F1.out; have f0 := hFe.c0; have f1 := hFe.c1; have z0 := blk_frozen hFe 0; have z1 := blk_frozen hFe 1; clear hFe; skip)
              | fail)
    ((try simp only [Exit.inBlock, Exit.then]); refine bodyPost_ret (by simp [results, Try.results19, go_sem, f0, f1, setCell_same_of, World.cell?_setCell_other]; try rfl) rfl ?_)
    exact ⟨[], none, 0, none, 0, simP_nil, rfl, ⟨Kd.R_nil _ _ _ _ _, Kd.S_nil _ _ _ _ _⟩, below_set (below_set B1.out (Nat.le_refl _)) (Nat.le_refl _)⟩

end Go.Proofs.Ytepilofcionekaa
namespace Go.Proofs.Ytepilofcionekaa
open Fl Go.RowKit Go.Proofs.YtepilofcionekaaW.PrintWords Go.Proofs.Ytepilofcionekaa.PMesh Msh
set_option linter.unusedVariables false

set_option maxHeartbeats 4000000 in
set_option maxRecDepth 100000 in
theorem fnExactRingMesh_walk (w : World) (a0 : Int) (wa0 : IntKind.i64.min ≤ a0 ∧ a0 ≤ IntKind.i64.max) (a1 : Int) (wa1 : IntKind.i64.min ≤ a1 ∧ a1 ≤ IntKind.i64.max) (v0 : Nat) (wv0 : v0 < 2 ^ 32) (v1 : Nat) (wv1 : v1 < 2 ^ 32) :
    Calls Try.prog 4 #[.int .i64 a0, .int .i64 a1, .float .f32 v0, .float .f32 v1] w fun e w' => e = .returned (.bool true) ∧ Below w.heap.size w w' := by
  have h1 : ∀ W, Calls Try.prog 19 #[.int .i64 a0, .int .i64 a1, .float .f32 v0, .float .f32 v1] W (AnsRs W (ringR a0 a1 v0 v1).1 (ringR a0 a1 v0 v1).2.1 (ringR a0 a1 v0 v1).2.2) := fun W => (spec_RingMesh a0 a1 v0 v1 W).mono (fun E w' h => h.r)
  have h2 : ∀ W, Calls Try.prog 20 #[.int .i64 a0, .int .i64 a1, .float .f32 v0, .float .f32 v1] W (AnsMs W (ringR a0 a1 v0 v1).1 (ringR a0 a1 v0 v1).2.1 (ringR a0 a1 v0 v1).2.2) := fun W => impl_RingMesh a0 a1 v0 v1 W
  have hs := ring_small a0 a1 v0 v1
  generalize ringR a0 a1 v0 v1 = R at *
  obtain ⟨P, T, b⟩ := R
  dsimp only at h1 h2 hs
  have H1 := Lib.hid h1
  have H2 := Lib.hid h2
  have hb1 := hs.1
  have HT1 := Lib.hid hs.2.1
  have HT2 := Lib.hid hs.2.2
  have htot := tot_le T hs.2.2
  have htm := hs.2.1
  have hk1 : ¬ (1 + 3 * (P.length : Int) + (tot T : Int)) < 0 := by omega
  clear h1 h2 hs htot htm wa0 wa1 wv0 wv1
  go_enter Try.func4, Try.ntmps4
  go_wp2_with (first
    | (go_at_call 19; refine (H1.out _).mono ?_; rintro E w1 ⟨PW, A1, c1, B1, e1, hs, rfl, hx, hb⟩; have z1 := hb.size; have SW := Lib.hid hs
       have hv := below_alloc (Below.refl w1.heap.size w1) (.cells #[.slice A1 P.length c1, .slice B1 T.length e1] 27)
       have hn := BoxAt.new w1 27 (.slice A1 P.length c1) (.slice B1 T.length e1)
       obtain ⟨w2, hw2⟩ : ∃ w2, w2 = w1.alloc (.cells #[.slice A1 P.length c1, .slice B1 T.length e1] 27) := ⟨_, rfl⟩
       rw [← hw2] at hv hn; have z2 := hv.size; have y2 := hn.lt
       have W2 := Lib.hid (hx.below hv); have BW2 := Lib.hid hn; have K1 := Lib.hid hb; have K2 := Lib.hid (below_then hb hv hb.size); have WW2 := Lib.hid hw2; clear hb hx hv hn hw2 hs)
    | (go_at_call 20; first
       | (have k7 := K7.out; refine (H2.out _).mono ?_; rintro E w8 ⟨PH, A8, c8, B8, e8, hs, rfl, hx, hb⟩; have z8 := hb.size; have SH := Lib.hid hs
          have W8 := Lib.hid (W7.out.below hb); have G8 := Lib.hid (G7.out.below hb); have BW8 := Lib.hid (BW7.out.below hb); have bwc8 := BW8.out.c0; have bwd8 := BW8.out.c1; (try clear bwc7 bwd7); have BG8 := Lib.hid (BG7.out.below hb); have bgc8 := BG8.out.c0; have bgd8 := BG8.out.c1; (try clear bgc7 bgd7); 
          have K8 := Lib.hid (below_then K7.out hb K7.out.size)
          have hv := below_alloc (Below.refl w8.heap.size w8) (.cells #[.slice A8 P.length c8, .slice B8 T.length e8] 27)
          have hn := BoxAt.new w8 27 (.slice A8 P.length c8) (.slice B8 T.length e8)
          have hm := BW8.out.below hv
          have u0 := hn.c0; have u1 := hn.c1; have v0_ := hm.c0; have v1_ := hm.c1
          obtain ⟨w9, hw9⟩ : ∃ w9, w9 = w8.alloc (.cells #[.slice A8 P.length c8, .slice B8 T.length e8] 27) := ⟨_, rfl⟩
          rw [← hw9] at hv; have z9 := hv.size; have H9 := Lib.hid (hx.below hv); have W9 := Lib.hid (W8.out.below hv); have G9 := Lib.hid (G8.out.below hv); have BW9 := Lib.hid (BW8.out.below hv); have bwc9 := BW9.out.c0; have bwd9 := BW9.out.c1; (try clear bwc8 bwd8); have BG9 := Lib.hid (BG8.out.below hv); have bgc9 := BG9.out.c0; have bgd9 := BG9.out.c1; (try clear bgc8 bgd8); 
          have K9 := Lib.hid (below_then K8.out hv K8.out.size); have WW9 := Lib.hid hw9; clear hb hx hv hn hm hw9 hs k7)
       | (rw [← WW2.out]; refine (H2.out _).mono ?_; rintro E w3 ⟨PG, A3, c3, B3, e3, hs, rfl, hx, hb⟩; have z3 := hb.size; have SG := Lib.hid hs
          have W3 := Lib.hid (W2.out.below hb); have BW3 := Lib.hid (BW2.out.below hb); have bwc3 := BW3.out.c0; have bwd3 := BW3.out.c1; (try clear bwc2 bwd2); 
          have K3 := Lib.hid (below_then K2.out hb K2.out.size)
          have hv := below_alloc (Below.refl w3.heap.size w3) (.cells #[.slice A3 P.length c3, .slice B3 T.length e3] 27)
          have hn := BoxAt.new w3 27 (.slice A3 P.length c3) (.slice B3 T.length e3)
          have hm := BW3.out.below hv
          have u0 := hn.c0; have u1 := hn.c1; have v0_ := hm.c0; have v1_ := hm.c1
          obtain ⟨w4, hw4⟩ : ∃ w4, w4 = w3.alloc (.cells #[.slice A3 P.length c3, .slice B3 T.length e3] 27) := ⟨_, rfl⟩
          rw [← hw4] at hv; have z4 := hv.size; have G4 := Lib.hid (hx.below hv); have W4 := Lib.hid (W3.out.below hv); have BW4 := Lib.hid (BW3.out.below hv); have bwc4 := BW4.out.c0; have bwd4 := BW4.out.c1; (try clear bwc3 bwd3); 
          have hn4 := hn; rw [← hw4] at hn4; have BG4 := Lib.hid hn4; have y4 := hn4.lt
          have K4 := Lib.hid (below_then K3.out hv K3.out.size); have WW4 := Lib.hid hw4; clear hb hx hv hn hm hn4 hw4 hs))
    | (go_at_call 21; first
       | (rw [← WW9.out]; refine (eqr_step P _ _ T SH.out SW.out hb1 HT1.out HT2.out _ _ _ _ _ _ _ _ _ (OwnM.readn SH.out H9.out) (RefM.readn SW.out W9.out)).mono ?_; rintro E w10 ⟨rfl, hb⟩; have z10 := hb.size; have G10 := Lib.hid (G9.out.below hb); have BG10 := Lib.hid (BG9.out.below hb); have bgc10 := BG10.out.c0; have bgd10 := BG10.out.c1; (try clear bgc9 bgd9); have K10 := Lib.hid (below_then K9.out hb K9.out.size); clear hb u0 u1 v0_ v1_)
       | (rw [← WW4.out]; refine (eqr_step P _ _ T SG.out SW.out hb1 HT1.out HT2.out _ _ _ _ _ _ _ _ _ (OwnM.readn SG.out G4.out) (RefM.readn SW.out W4.out)).mono ?_; rintro E w5 ⟨rfl, hb⟩; have z5 := hb.size; have W5 := Lib.hid (W4.out.below hb); have G5 := Lib.hid (G4.out.below hb); have BW5 := Lib.hid (BW4.out.below hb); have bwc5 := BW5.out.c0; have bwd5 := BW5.out.c1; (try clear bwc4 bwd4); have BG5 := Lib.hid (BG4.out.below hb); have bgc5 := BG5.out.c0; have bgd5 := BG5.out.c1; (try clear bgc4 bgd4); have K5 := Lib.hid (below_then K4.out hb K4.out.size); clear hb u0 u1 v0_ v1_))
    | (go_at_call 22; refine (markMs_step P _ T SG.out hb1 HT1.out HT2.out 1 (by omega) (by omega) _ _ _ _ _ _ _ G5.out w K5.out (by omega) (by omega)).mono ?_; rintro E w6 ⟨rfl, hx, hk, hb⟩; have z6 := hk.1; have W6 := Lib.hid (W5.out.kept hk (by omega)); have BW6 := Lib.hid (BW5.out.kept hk (by omega)); have bwc6 := BW6.out.c0; have bwd6 := BW6.out.c1; (try clear bwc5 bwd5); have BG6 := Lib.hid (BG5.out.kept hk (by omega)); have bgc6 := BG6.out.c0; have bgd6 := BG6.out.c1; (try clear bgc5 bgd5); have G6 := Lib.hid hx; have K6 := Lib.hid hb; clear hx hk hb)
    | (go_at_call 23; first
       | (refine (heldM_step P T hb1 HT1.out HT2.out 1 (by omega) (by omega) _ _ _ _ _ _ _ G10.out).mono ?_; rintro E w11 ⟨rfl, hb⟩; have K11 := Lib.hid (below_then K10.out hb K10.out.size); clear hb)
       | (refine (heldM_step P T hb1 HT1.out HT2.out 1 (by omega) (by omega) _ _ _ _ _ _ _ G6.out).mono ?_; rintro E w7 ⟨rfl, hb⟩; have z7 := hb.size; have W7 := Lib.hid (W6.out.below hb); have G7 := Lib.hid (G6.out.below hb); have BW7 := Lib.hid (BW6.out.below hb); have bwc7 := BW7.out.c0; have bwd7 := BW7.out.c1; (try clear bwc6 bwd6); have BG7 := Lib.hid (BG6.out.below hb); have bgc7 := BG7.out.c0; have bgd7 := BG7.out.c1; (try clear bgc6 bgd6); have K7 := Lib.hid (below_then K6.out hb K6.out.size); clear hb))
    | fail)
  go_ret
  exact ⟨rfl, K11.out⟩

end Go.Proofs.Ytepilofcionekaa
namespace Go.Proofs.Ytepilofcionekaa
open Go.ChangeShapes Go.WideShapes Go.ChangeAt Go.RowKit Go.Deep
open Go.ChangeMaps (open_string shut_string)

/-- A row of cells that can be read from A on; nil has none. -/
def RowIn (w : World) (A : Option Addr) (cs : List Value) : Prop :=
  (A = none ∧ cs = []) ∨ ∃ b off, A = some ⟨b, off, none⟩ ∧ b < w.heap.size ∧ ∀ i v, cs[i]? = some v → w.cell? ⟨b, off + i, none⟩ = some v

section
variable {H : Type} {enc : TypeId × Value → H} {P : Program} {w : World} {base : Nat} {spare : Nat → Bool} {held : Bool}

theorem flt_lt {k : FloatKind} {b : Nat} (h : (Lit.float k b).wf = true) : b < 2 ^ k.format.width := by
  cases k
  · show b < 4294967296; simpa [Lit.wf] using h
  · show b < 18446744073709551616; simpa [Lit.wf] using h

theorem op_float {r : Reach} {b0 : Nat} {t : TypeId} {k : FloatKind} {v : Value} {d : DataW H} {ps : List MemPlace} (ht : P.underlying t = some (.float k)) (hval : Value.okWide P w r b0 t v) (hd : DataW.Trod enc P w base spare held t v d ps) :
    ∃ b, b < 2 ^ k.format.width ∧ v = .float k b := by
  obtain ⟨b, rfl, _, _, hw⟩ := open_float ht hval hd
  exact ⟨b, flt_lt hw, rfl⟩

theorem op_int {r : Reach} {b0 : Nat} {t : TypeId} {k : IntKind} {v : Value} {d : DataW H} {ps : List MemPlace} (ht : P.underlying t = some (.int k)) (hval : Value.okWide P w r b0 t v) (hd : DataW.Trod enc P w base spare held t v d ps) :
    ∃ n, (k.min ≤ n ∧ n ≤ k.max) ∧ v = .int k n := by
  obtain ⟨n, rfl, _, _, hw⟩ := open_int ht hval hd
  exact ⟨n, by simpa [Lit.wf] using hw, rfl⟩

theorem op_string {r : Reach} {b0 : Nat} {t : TypeId} {v : Value} {d : DataW H} {ps : List MemPlace} (ht : P.underlying t = some .string) (hval : Value.okWide P w r b0 t v) (hd : DataW.Trod enc P w base spare held t v d ps) :
    ∃ s : ByteArray, s.size ≤ maxLen ∧ v = .string s := by
  obtain ⟨s, rfl, _, _, hw⟩ := open_string ht hval hd
  exact ⟨s, hw, rfl⟩

theorem trod_float {t : TypeId} {k : FloatKind} {n : Nat} {v : Value} {x : DataW H × List MemPlace} (ht : P.underlying t = some (.float k)) (h : DataW.trod enc P w base spare held n t [v] = some x) :
    ∃ b, b < 2 ^ k.format.width ∧ v = .float k b := by
  cases n with
  | zero => simp [DataW.trod] at h
  | succ n =>
    simp only [DataW.trod, ht] at h
    cases v <;> simp at h
    rename_i k' b
    obtain ⟨⟨rfl, hw⟩, _⟩ := h
    exact ⟨b, flt_lt hw, rfl⟩

theorem op_vec {r : Reach} {b0 : Nat} {t f : TypeId} {F : Array Field} {v : Value} {d : DataW H} {p : List MemPlace} (hs : P.underlying t = some (.struct F)) (hf : P.underlying f = some (.float .f32))
    (hF : (F.map (·.type)) = #[f, f, f]) (hone0 : oneCellFields P F = true) (hC : P.cellsOf t = 3)
    (hv : Value.okWide P w r b0 t v) (h : DataW.Trod enc P w base spare held t v d p) :
    ∃ x y z : Nat, x < 2 ^ 32 ∧ y < 2 ^ 32 ∧ z < 2 ^ 32 ∧ v = .agg #[.float .f32 x, .float .f32 y, .float .f32 z] := by
  obtain ⟨F⟩ := F
  have hl : F.length = 3 := by simpa using congrArg Array.size hF
  match F, hl with
  | [f0, f1, f2], _ =>
    simp at hF
    obtain ⟨e0, e1, e2⟩ := hF
    have hone : oneCellFields P #[f0, f1, f2] = true := hone0
    obtain ⟨v0, v1, v2, y0, y1, y2, n, rfl, _, _, t0, t1, t2⟩ := Joins.open_agg3 hs hone hC hv h
    rw [e0] at t0; rw [e1] at t1; rw [e2] at t2
    obtain ⟨x, hx, rfl⟩ := trod_float hf t0
    obtain ⟨y, hy, rfl⟩ := trod_float hf t1
    obtain ⟨z, hz, rfl⟩ := trod_float hf t2
    exact ⟨x, y, z, hx, hy, hz, rfl⟩
end
end Go.Proofs.Ytepilofcionekaa
