/-
  The proof's texts, one behind the other: XUball XMgrid XMgrids XMrings.
-/
import Derived.Test.YtnibobbfepdeiaaMLTurnedc
import Derived.Test.YtnibobbfepdeiaaPMeshx91
import Derived.Test.YtnibobbfepdeiaaPMeshx53
import Derived.Test.YtnibobbfepdeiaaPMeshx34
import Derived.Test.YtnibobbfepdeiaaPMeshx22
namespace Go.Proofs.Ytnibobbfepdeiaa
open Fl Go.RowKit Go.Proofs.YtnibobbfepdeiaaW.PrintWords Go.Proofs.YtnibobbfepdeiaaW.PrintLast Go.Proofs.YtnibobbfepdeiaaW.PrintMore Go.Proofs.Ytnibobbfepdeiaa.PMesh Msh
set_option linter.unusedVariables false
set_option linter.unusedSimpArgs false

set_option maxHeartbeats 4000000 in
set_option maxRecDepth 100000 in
theorem spec_l02Ball0 (w : World) : Calls Try.prog 70 #[.int .i64 0, .float .f32 1073741824] w (AnsQ w octP octT) := by
  have B0 := Lib.hid (below_alloc (Below.refl w.heap.size w) (.cells #[.slice none 0 0, .slice none 0 0] 30))
  have F0 := Lib.hid (BoxAt.new w 30 (.slice none 0 0) (.slice none 0 0))
  go_enter Try.func70, Try.ntmps70
  go_wp2_with (first
    | ((with_reducible refine gate_dst (N := 31) rfl ?_); refine Kd.R_lit k59 _ 59 ?hg (N := 31) ?hd (xs := [(⟨1073741824, 0, 0⟩ : S59), (⟨3221225472, 0, 0⟩ : S59), (⟨0, 1073741824, 0⟩ : S59), (⟨0, 3221225472, 0⟩ : S59), (⟨0, 0, 1073741824⟩ : S59), (⟨0, 0, 3221225472⟩ : S59)]) (inner := [.float .f32 1073741824, .float .f32 0, .float .f32 0, .float .f32 3221225472, .float .f32 0, .float .f32 0, .float .f32 0, .float .f32 1073741824, .float .f32 0, .float .f32 0, .float .f32 3221225472, .float .f32 0, .float .f32 0, .float .f32 0, .float .f32 1073741824, .float .f32 0, .float .f32 0, .float .f32 3221225472]) (ok := fun _ => True) (okp := fun _ => True) ?hr ?hp (fun _ hk => hk) trivial (Below.refl _ _) (Nat.le_refl _) (by simp) ?_; (case hd => rfl); (case hg => rfl); (case hr => first | (go_simp; done) | (go_simp; rfl)); (case hp => exact (Reps.c3 (k59_mkM _ _ _ _) (Reps.c3 (k59_mkM _ _ _ _) (Reps.c3 (k59_mkM _ _ _ _) (Reps.c3 (k59_mkM _ _ _ _) (Reps.c3 (k59_mkM _ _ _ _) (Reps.c3 (k59_mkM _ _ _ _) (Reps.none _ _)))))))); intro vp wp ho hb hg_ hnew_; clear hg_ hnew_; obtain ⟨Ap, cp, rfl⟩ := Kd.R_slice ho; have Qp := Lib.hid (show Kd.R k59 59 wp w.heap.size (fun _ => True) (.slice Ap 6 cp) octP from Kd.R_lower ho (below_size B0.out)); have Bp := Lib.hid (below_step B0.out hb); have Fp := Lib.hid (F0.out.below hb); clear ho hb)
    | ((with_reducible refine gate_dst (N := 33) rfl ?_); obtain ⟨wr0, hw0⟩ : ∃ W, W = wp.alloc (.cells #[.slice Ap 6 cp, .slice none 0 0] 30) := ⟨_, rfl⟩; have hv0 : Below wp.heap.size wp wr0 := (by rw [hw0]; exact below_alloc (Below.refl _ _) _); have g0_ : BoxAt wr0 wp.heap.size 30 (.slice Ap 6 cp) (.slice none 0 0) := (by rw [hw0]; exact BoxAt.new wp 30 _ _); have hgs : w.heap.size < wp.heap.size := Fp.out.lt; have B_0 := Lib.hid (below_step Bp.out hv0); have F_0 := Lib.hid (Fp.out.below hv0); have G_0 := Lib.hid g0_; have Q_0 := Lib.hid (Kd.R_below Qp.out hv0); rw [← hw0]; clear hw0 hv0 g0_ Bp Fp Qp; generalize wp.heap.size = g at *; refine Kd.R_lit (Kd.int .i64) _ 2 ?hg (N := 33) ?hd (xs := ([0, 2, 4] : List Int)) (inner := [.int .i64 0, .int .i64 2, .int .i64 4]) (ok := fun _ => True) (okp := fun _ => True) ?hr ?hp (fun _ hk => hk) trivial (Below.refl _ _) (Nat.le_refl _) (by simp) ?_; (case hd => rfl); (case hg => rfl); (case hr => first | (go_simp; done) | (go_simp; rfl)); (case hp => exact (Reps.one (show Kd.M (Kd.int .i64) _ _ _ (0) [.int .i64 (0)] from rfl) (Reps.one (show Kd.M (Kd.int .i64) _ _ _ (2) [.int .i64 (2)] from rfl) (Reps.one (show Kd.M (Kd.int .i64) _ _ _ (4) [.int .i64 (4)] from rfl) (Reps.none _ _))))); intro va0 wr1 ho hb hg_ hnew_; clear hg_ hnew_; obtain ⟨At0, ct0, rfl⟩ := Kd.R_slice ho; have A0_1 := Lib.hid (show Kd.R (Kd.int .i64) 2 wr1 w.heap.size (fun _ => True) (.slice At0 3 ct0) ([0, 2, 4] : List Int) from Kd.R_lower ho (below_size B_0.out)); have B_1 := Lib.hid (below_step B_0.out hb); have F_1 := Lib.hid (F_0.out.below hb); have G_1 := Lib.hid (G_0.out.below hb); have Q_1 := Lib.hid (Kd.R_below Q_0.out hb); clear ho hb B_0 F_0 G_0 Q_0 )
    | ((with_reducible refine gate_dst (N := 34) rfl ?_); refine Kd.R_lit (Kd.int .i64) _ 2 ?hg (N := 34) ?hd (xs := ([2, 1, 4] : List Int)) (inner := [.int .i64 2, .int .i64 1, .int .i64 4]) (ok := fun _ => True) (okp := fun _ => True) ?hr ?hp (fun _ hk => hk) trivial (Below.refl _ _) (Nat.le_refl _) (by simp) ?_; (case hd => rfl); (case hg => rfl); (case hr => first | (go_simp; done) | (go_simp; rfl)); (case hp => exact (Reps.one (show Kd.M (Kd.int .i64) _ _ _ (2) [.int .i64 (2)] from rfl) (Reps.one (show Kd.M (Kd.int .i64) _ _ _ (1) [.int .i64 (1)] from rfl) (Reps.one (show Kd.M (Kd.int .i64) _ _ _ (4) [.int .i64 (4)] from rfl) (Reps.none _ _))))); intro va1 wr2 ho hb hg_ hnew_; clear hg_ hnew_; obtain ⟨At1, ct1, rfl⟩ := Kd.R_slice ho; have A1_2 := Lib.hid (show Kd.R (Kd.int .i64) 2 wr2 w.heap.size (fun _ => True) (.slice At1 3 ct1) ([2, 1, 4] : List Int) from Kd.R_lower ho (below_size B_1.out)); have B_2 := Lib.hid (below_step B_1.out hb); have F_2 := Lib.hid (F_1.out.below hb); have G_2 := Lib.hid (G_1.out.below hb); have Q_2 := Lib.hid (Kd.R_below Q_1.out hb); have A0_2 := Lib.hid (Kd.R_below A0_1.out hb); clear ho hb B_1 F_1 G_1 Q_1 A0_1)
    | ((with_reducible refine gate_dst (N := 35) rfl ?_); refine Kd.R_lit (Kd.int .i64) _ 2 ?hg (N := 35) ?hd (xs := ([1, 3, 4] : List Int)) (inner := [.int .i64 1, .int .i64 3, .int .i64 4]) (ok := fun _ => True) (okp := fun _ => True) ?hr ?hp (fun _ hk => hk) trivial (Below.refl _ _) (Nat.le_refl _) (by simp) ?_; (case hd => rfl); (case hg => rfl); (case hr => first | (go_simp; done) | (go_simp; rfl)); (case hp => exact (Reps.one (show Kd.M (Kd.int .i64) _ _ _ (1) [.int .i64 (1)] from rfl) (Reps.one (show Kd.M (Kd.int .i64) _ _ _ (3) [.int .i64 (3)] from rfl) (Reps.one (show Kd.M (Kd.int .i64) _ _ _ (4) [.int .i64 (4)] from rfl) (Reps.none _ _))))); intro va2 wr3 ho hb hg_ hnew_; clear hg_ hnew_; obtain ⟨At2, ct2, rfl⟩ := Kd.R_slice ho; have A2_3 := Lib.hid (show Kd.R (Kd.int .i64) 2 wr3 w.heap.size (fun _ => True) (.slice At2 3 ct2) ([1, 3, 4] : List Int) from Kd.R_lower ho (below_size B_2.out)); have B_3 := Lib.hid (below_step B_2.out hb); have F_3 := Lib.hid (F_2.out.below hb); have G_3 := Lib.hid (G_2.out.below hb); have Q_3 := Lib.hid (Kd.R_below Q_2.out hb); have A0_3 := Lib.hid (Kd.R_below A0_2.out hb); have A1_3 := Lib.hid (Kd.R_below A1_2.out hb); clear ho hb B_2 F_2 G_2 Q_2 A0_2 A1_2)
    | ((with_reducible refine gate_dst (N := 36) rfl ?_); refine Kd.R_lit (Kd.int .i64) _ 2 ?hg (N := 36) ?hd (xs := ([3, 0, 4] : List Int)) (inner := [.int .i64 3, .int .i64 0, .int .i64 4]) (ok := fun _ => True) (okp := fun _ => True) ?hr ?hp (fun _ hk => hk) trivial (Below.refl _ _) (Nat.le_refl _) (by simp) ?_; (case hd => rfl); (case hg => rfl); (case hr => first | (go_simp; done) | (go_simp; rfl)); (case hp => exact (Reps.one (show Kd.M (Kd.int .i64) _ _ _ (3) [.int .i64 (3)] from rfl) (Reps.one (show Kd.M (Kd.int .i64) _ _ _ (0) [.int .i64 (0)] from rfl) (Reps.one (show Kd.M (Kd.int .i64) _ _ _ (4) [.int .i64 (4)] from rfl) (Reps.none _ _))))); intro va3 wr4 ho hb hg_ hnew_; clear hg_ hnew_; obtain ⟨At3, ct3, rfl⟩ := Kd.R_slice ho; have A3_4 := Lib.hid (show Kd.R (Kd.int .i64) 2 wr4 w.heap.size (fun _ => True) (.slice At3 3 ct3) ([3, 0, 4] : List Int) from Kd.R_lower ho (below_size B_3.out)); have B_4 := Lib.hid (below_step B_3.out hb); have F_4 := Lib.hid (F_3.out.below hb); have G_4 := Lib.hid (G_3.out.below hb); have Q_4 := Lib.hid (Kd.R_below Q_3.out hb); have A0_4 := Lib.hid (Kd.R_below A0_3.out hb); have A1_4 := Lib.hid (Kd.R_below A1_3.out hb); have A2_4 := Lib.hid (Kd.R_below A2_3.out hb); clear ho hb B_3 F_3 G_3 Q_3 A0_3 A1_3 A2_3)
    | ((with_reducible refine gate_dst (N := 37) rfl ?_); refine Kd.R_lit (Kd.int .i64) _ 2 ?hg (N := 37) ?hd (xs := ([2, 0, 5] : List Int)) (inner := [.int .i64 2, .int .i64 0, .int .i64 5]) (ok := fun _ => True) (okp := fun _ => True) ?hr ?hp (fun _ hk => hk) trivial (Below.refl _ _) (Nat.le_refl _) (by simp) ?_; (case hd => rfl); (case hg => rfl); (case hr => first | (go_simp; done) | (go_simp; rfl)); (case hp => exact (Reps.one (show Kd.M (Kd.int .i64) _ _ _ (2) [.int .i64 (2)] from rfl) (Reps.one (show Kd.M (Kd.int .i64) _ _ _ (0) [.int .i64 (0)] from rfl) (Reps.one (show Kd.M (Kd.int .i64) _ _ _ (5) [.int .i64 (5)] from rfl) (Reps.none _ _))))); intro va4 wr5 ho hb hg_ hnew_; clear hg_ hnew_; obtain ⟨At4, ct4, rfl⟩ := Kd.R_slice ho; have A4_5 := Lib.hid (show Kd.R (Kd.int .i64) 2 wr5 w.heap.size (fun _ => True) (.slice At4 3 ct4) ([2, 0, 5] : List Int) from Kd.R_lower ho (below_size B_4.out)); have B_5 := Lib.hid (below_step B_4.out hb); have F_5 := Lib.hid (F_4.out.below hb); have G_5 := Lib.hid (G_4.out.below hb); have Q_5 := Lib.hid (Kd.R_below Q_4.out hb); have A0_5 := Lib.hid (Kd.R_below A0_4.out hb); have A1_5 := Lib.hid (Kd.R_below A1_4.out hb); have A2_5 := Lib.hid (Kd.R_below A2_4.out hb); have A3_5 := Lib.hid (Kd.R_below A3_4.out hb); clear ho hb B_4 F_4 G_4 Q_4 A0_4 A1_4 A2_4 A3_4)
    | ((with_reducible refine gate_dst (N := 38) rfl ?_); refine Kd.R_lit (Kd.int .i64) _ 2 ?hg (N := 38) ?hd (xs := ([1, 2, 5] : List Int)) (inner := [.int .i64 1, .int .i64 2, .int .i64 5]) (ok := fun _ => True) (okp := fun _ => True) ?hr ?hp (fun _ hk => hk) trivial (Below.refl _ _) (Nat.le_refl _) (by simp) ?_; (case hd => rfl); (case hg => rfl); (case hr => first | (go_simp; done) | (go_simp; rfl)); (case hp => exact (Reps.one (show Kd.M (Kd.int .i64) _ _ _ (1) [.int .i64 (1)] from rfl) (Reps.one (show Kd.M (Kd.int .i64) _ _ _ (2) [.int .i64 (2)] from rfl) (Reps.one (show Kd.M (Kd.int .i64) _ _ _ (5) [.int .i64 (5)] from rfl) (Reps.none _ _))))); intro va5 wr6 ho hb hg_ hnew_; clear hg_ hnew_; obtain ⟨At5, ct5, rfl⟩ := Kd.R_slice ho; have A5_6 := Lib.hid (show Kd.R (Kd.int .i64) 2 wr6 w.heap.size (fun _ => True) (.slice At5 3 ct5) ([1, 2, 5] : List Int) from Kd.R_lower ho (below_size B_5.out)); have B_6 := Lib.hid (below_step B_5.out hb); have F_6 := Lib.hid (F_5.out.below hb); have G_6 := Lib.hid (G_5.out.below hb); have Q_6 := Lib.hid (Kd.R_below Q_5.out hb); have A0_6 := Lib.hid (Kd.R_below A0_5.out hb); have A1_6 := Lib.hid (Kd.R_below A1_5.out hb); have A2_6 := Lib.hid (Kd.R_below A2_5.out hb); have A3_6 := Lib.hid (Kd.R_below A3_5.out hb); have A4_6 := Lib.hid (Kd.R_below A4_5.out hb); clear ho hb B_5 F_5 G_5 Q_5 A0_5 A1_5 A2_5 A3_5 A4_5)
    | ((with_reducible refine gate_dst (N := 39) rfl ?_); refine Kd.R_lit (Kd.int .i64) _ 2 ?hg (N := 39) ?hd (xs := ([3, 1, 5] : List Int)) (inner := [.int .i64 3, .int .i64 1, .int .i64 5]) (ok := fun _ => True) (okp := fun _ => True) ?hr ?hp (fun _ hk => hk) trivial (Below.refl _ _) (Nat.le_refl _) (by simp) ?_; (case hd => rfl); (case hg => rfl); (case hr => first | (go_simp; done) | (go_simp; rfl)); (case hp => exact (Reps.one (show Kd.M (Kd.int .i64) _ _ _ (3) [.int .i64 (3)] from rfl) (Reps.one (show Kd.M (Kd.int .i64) _ _ _ (1) [.int .i64 (1)] from rfl) (Reps.one (show Kd.M (Kd.int .i64) _ _ _ (5) [.int .i64 (5)] from rfl) (Reps.none _ _))))); intro va6 wr7 ho hb hg_ hnew_; clear hg_ hnew_; obtain ⟨At6, ct6, rfl⟩ := Kd.R_slice ho; have A6_7 := Lib.hid (show Kd.R (Kd.int .i64) 2 wr7 w.heap.size (fun _ => True) (.slice At6 3 ct6) ([3, 1, 5] : List Int) from Kd.R_lower ho (below_size B_6.out)); have B_7 := Lib.hid (below_step B_6.out hb); have F_7 := Lib.hid (F_6.out.below hb); have G_7 := Lib.hid (G_6.out.below hb); have Q_7 := Lib.hid (Kd.R_below Q_6.out hb); have A0_7 := Lib.hid (Kd.R_below A0_6.out hb); have A1_7 := Lib.hid (Kd.R_below A1_6.out hb); have A2_7 := Lib.hid (Kd.R_below A2_6.out hb); have A3_7 := Lib.hid (Kd.R_below A3_6.out hb); have A4_7 := Lib.hid (Kd.R_below A4_6.out hb); have A5_7 := Lib.hid (Kd.R_below A5_6.out hb); clear ho hb B_6 F_6 G_6 Q_6 A0_6 A1_6 A2_6 A3_6 A4_6 A5_6)
    | ((with_reducible refine gate_dst (N := 40) rfl ?_); refine Kd.R_lit (Kd.int .i64) _ 2 ?hg (N := 40) ?hd (xs := ([0, 3, 5] : List Int)) (inner := [.int .i64 0, .int .i64 3, .int .i64 5]) (ok := fun _ => True) (okp := fun _ => True) ?hr ?hp (fun _ hk => hk) trivial (Below.refl _ _) (Nat.le_refl _) (by simp) ?_; (case hd => rfl); (case hg => rfl); (case hr => first | (go_simp; done) | (go_simp; rfl)); (case hp => exact (Reps.one (show Kd.M (Kd.int .i64) _ _ _ (0) [.int .i64 (0)] from rfl) (Reps.one (show Kd.M (Kd.int .i64) _ _ _ (3) [.int .i64 (3)] from rfl) (Reps.one (show Kd.M (Kd.int .i64) _ _ _ (5) [.int .i64 (5)] from rfl) (Reps.none _ _))))); intro va7 wr8 ho hb hg_ hnew_; clear hg_ hnew_; obtain ⟨At7, ct7, rfl⟩ := Kd.R_slice ho; have A7_8 := Lib.hid (show Kd.R (Kd.int .i64) 2 wr8 w.heap.size (fun _ => True) (.slice At7 3 ct7) ([0, 3, 5] : List Int) from Kd.R_lower ho (below_size B_7.out)); have B_8 := Lib.hid (below_step B_7.out hb); have F_8 := Lib.hid (F_7.out.below hb); have G_8 := Lib.hid (G_7.out.below hb); have Q_8 := Lib.hid (Kd.R_below Q_7.out hb); have A0_8 := Lib.hid (Kd.R_below A0_7.out hb); have A1_8 := Lib.hid (Kd.R_below A1_7.out hb); have A2_8 := Lib.hid (Kd.R_below A2_7.out hb); have A3_8 := Lib.hid (Kd.R_below A3_7.out hb); have A4_8 := Lib.hid (Kd.R_below A4_7.out hb); have A5_8 := Lib.hid (Kd.R_below A5_7.out hb); have A6_8 := Lib.hid (Kd.R_below A6_7.out hb); clear ho hb B_7 F_7 G_7 Q_7 A0_7 A1_7 A2_7 A3_7 A4_7 A5_7 A6_7)
    | ((with_reducible refine gate_dst (N := 41) rfl ?_); refine Kd.R_lit (Kd.slice 2 (Kd.int .i64)) w.heap.size 34 ?hg (N := 41) ?hd (xs := ([[0, 2, 4], [2, 1, 4], [1, 3, 4], [3, 0, 4], [2, 0, 5], [1, 2, 5], [3, 1, 5], [0, 3, 5]] : List (List Int))) (inner := [.slice At0 3 ct0, .slice At1 3 ct1, .slice At2 3 ct2, .slice At3 3 ct3, .slice At4 3 ct4, .slice At5 3 ct5, .slice At6 3 ct6, .slice At7 3 ct7]) (ok := fun _ => True) (okp := fun _ => True) ?hr ?hp (fun _ hk => hk) trivial B_8.out (below_size B_8.out) (by decide) ?_; (case hd => rfl); (case hg => rfl); (case hr => first | (go_simp; done) | (go_simp; rfl)); (case hp => exact (Reps.one (Kd.M_row A0_8.out) (Reps.one (Kd.M_row A1_8.out) (Reps.one (Kd.M_row A2_8.out) (Reps.one (Kd.M_row A3_8.out) (Reps.one (Kd.M_row A4_8.out) (Reps.one (Kd.M_row A5_8.out) (Reps.one (Kd.M_row A6_8.out) (Reps.one (Kd.M_row A7_8.out) (Reps.none _ _)))))))))); intro vt w9 ho hb hg_ hnew_; have hv : Below wr8.heap.size wr8 w9 := Below.grown (Below.refl _ _) hg_ (Nat.le_refl _) (fun k hk => by cases hk); clear hg_ hnew_; obtain ⟨Ar, cr, rfl⟩ := Kd.R_slice ho; have T9 := Lib.hid (show Kd.R (Kd.slice 2 (Kd.int .i64)) 34 w9 w.heap.size (fun _ => True) (.slice Ar 8 cr) octT from ho); have B9 := Lib.hid hb; have hF := F_8.out.below hv; have hG := G_8.out.below hv; have Q9 := Lib.hid (Kd.R_below Q_8.out hv); have gd0 := hG.c0; have gd1 := hG.c1; have gz1 := blk_frozen hG 1; have f0 := hF.c0; have f1 := hF.c1; have z0 := blk_frozen hF 0; have z1 := blk_frozen hF 1; have ne1 : g ≠ w.heap.size := (by omega); have ne2 : w.heap.size ≠ g := (by omega);  have F9 := Lib.hid hF; have G9 := Lib.hid hG; clear ho hb hv hF hG B_8 F_8 G_8 Q_8 A0_8 A1_8 A2_8 A3_8 A4_8 A5_8 A6_8 A7_8)
    | fail)
  ((try simp only [Exit.inBlock, Exit.then]); refine bodyPost_ret (by simp [results, Try.results70, go_sem, f0, f1, setCell_same_of, World.cell?_setCell_other]; try rfl) rfl ?_)
  have n1 : w.heap.size ≠ g := by omega
  have F1 := blk_far (p := ⟨g, 1, none⟩) F9.out n1 (.slice Ar 8 cr)
  have F2 := blk_put F1 0 (.slice Ap 6 cp) rfl
  have pR := R_boxset (R_boxset (R_boxset Q9.out G9.out (by decide) 1 (.slice Ar 8 cr)) F1 (by decide) 0 (.slice Ap 6 cp)) F2 (by decide) 1 (.slice Ar 8 cr)
  have tR := R_boxset (R_boxset (R_boxset T9.out G9.out (by decide) 1 (.slice Ar 8 cr)) F1 (by decide) 0 (.slice Ap 6 cp)) F2 (by decide) 1 (.slice Ar 8 cr)
  exact ⟨Ap, cp, Ar, cr, rfl, ⟨R_in pR, Kd.R_N (R_in tR)⟩, below_set (below_set (below_set B9.out (by omega)) (Nat.le_refl _)) (Nat.le_refl _)⟩

theorem oct_self : simP octP octP := by
  refine ⟨rfl, fun i hi _ => ?_⟩
  have h : octP.all (fun x => simF x.f0 x.f0 && (simF x.f1 x.f1 && simF x.f2 x.f2)) = true := by decide +kernel
  have := List.all_eq_true.1 h _ (List.getElem_mem hi)
  simp only [Bool.and_eq_true] at this
  exact this
set_option maxHeartbeats 8000000 in
set_option maxRecDepth 100000 in
theorem spec_l02Ball1 (w : World) : Calls Try.prog 70 #[.int .i64 1, .float .f32 1073741824] w (AnsQ w ballP ballT) := by
  have B0 := Lib.hid (below_alloc (Below.refl w.heap.size w) (.cells #[.slice none 0 0, .slice none 0 0] 30))
  have F0 := Lib.hid (BoxAt.new w 30 (.slice none 0 0) (.slice none 0 0))
  go_enter Try.func70, Try.ntmps70
  go_wp2_with (first
    | ((with_reducible refine gate_dst (N := 31) rfl ?_); refine Kd.R_lit k59 _ 59 ?hg (N := 31) ?hd (xs := [(⟨1073741824, 0, 0⟩ : S59), (⟨3221225472, 0, 0⟩ : S59), (⟨0, 1073741824, 0⟩ : S59), (⟨0, 3221225472, 0⟩ : S59), (⟨0, 0, 1073741824⟩ : S59), (⟨0, 0, 3221225472⟩ : S59)]) (inner := [.float .f32 1073741824, .float .f32 0, .float .f32 0, .float .f32 3221225472, .float .f32 0, .float .f32 0, .float .f32 0, .float .f32 1073741824, .float .f32 0, .float .f32 0, .float .f32 3221225472, .float .f32 0, .float .f32 0, .float .f32 0, .float .f32 1073741824, .float .f32 0, .float .f32 0, .float .f32 3221225472]) (ok := fun _ => True) (okp := fun _ => True) ?hr ?hp (fun _ hk => hk) trivial (Below.refl _ _) (Nat.le_refl _) (by simp) ?_; (case hd => rfl); (case hg => rfl); (case hr => first | (go_simp; done) | (go_simp; rfl)); (case hp => exact (Reps.c3 (k59_mkM _ _ _ _) (Reps.c3 (k59_mkM _ _ _ _) (Reps.c3 (k59_mkM _ _ _ _) (Reps.c3 (k59_mkM _ _ _ _) (Reps.c3 (k59_mkM _ _ _ _) (Reps.c3 (k59_mkM _ _ _ _) (Reps.none _ _)))))))); intro vp wp ho hb hg_ hnew_; clear hg_ hnew_; obtain ⟨Ap, cp, rfl⟩ := Kd.R_slice ho; have Qp := Lib.hid (show Kd.R k59 59 wp w.heap.size (fun _ => True) (.slice Ap 6 cp) octP from Kd.R_lower ho (below_size B0.out)); have Bp := Lib.hid (below_step B0.out hb); have Fp := Lib.hid (F0.out.below hb); clear ho hb)
    | ((with_reducible refine gate_dst (N := 33) rfl ?_); obtain ⟨wr0, hw0⟩ : ∃ W, W = wp.alloc (.cells #[.slice Ap 6 cp, .slice none 0 0] 30) := ⟨_, rfl⟩; have hv0 : Below wp.heap.size wp wr0 := (by rw [hw0]; exact below_alloc (Below.refl _ _) _); have g0_ : BoxAt wr0 wp.heap.size 30 (.slice Ap 6 cp) (.slice none 0 0) := (by rw [hw0]; exact BoxAt.new wp 30 _ _); have hgs : w.heap.size < wp.heap.size := Fp.out.lt; have B_0 := Lib.hid (below_step Bp.out hv0); have F_0 := Lib.hid (Fp.out.below hv0); have G_0 := Lib.hid g0_; have Q_0 := Lib.hid (Kd.R_below Qp.out hv0); rw [← hw0]; clear hw0 hv0 g0_ Bp Fp Qp; generalize wp.heap.size = g at *; refine Kd.R_lit (Kd.int .i64) _ 2 ?hg (N := 33) ?hd (xs := ([0, 2, 4] : List Int)) (inner := [.int .i64 0, .int .i64 2, .int .i64 4]) (ok := fun _ => True) (okp := fun _ => True) ?hr ?hp (fun _ hk => hk) trivial (Below.refl _ _) (Nat.le_refl _) (by simp) ?_; (case hd => rfl); (case hg => rfl); (case hr => first | (go_simp; done) | (go_simp; rfl)); (case hp => exact (Reps.one (show Kd.M (Kd.int .i64) _ _ _ (0) [.int .i64 (0)] from rfl) (Reps.one (show Kd.M (Kd.int .i64) _ _ _ (2) [.int .i64 (2)] from rfl) (Reps.one (show Kd.M (Kd.int .i64) _ _ _ (4) [.int .i64 (4)] from rfl) (Reps.none _ _))))); intro va0 wr1 ho hb hg_ hnew_; clear hg_ hnew_; obtain ⟨At0, ct0, rfl⟩ := Kd.R_slice ho; have A0_1 := Lib.hid (show Kd.R (Kd.int .i64) 2 wr1 w.heap.size (fun _ => True) (.slice At0 3 ct0) ([0, 2, 4] : List Int) from Kd.R_lower ho (below_size B_0.out)); have B_1 := Lib.hid (below_step B_0.out hb); have F_1 := Lib.hid (F_0.out.below hb); have G_1 := Lib.hid (G_0.out.below hb); have Q_1 := Lib.hid (Kd.R_below Q_0.out hb); clear ho hb B_0 F_0 G_0 Q_0 )
    | ((with_reducible refine gate_dst (N := 34) rfl ?_); refine Kd.R_lit (Kd.int .i64) _ 2 ?hg (N := 34) ?hd (xs := ([2, 1, 4] : List Int)) (inner := [.int .i64 2, .int .i64 1, .int .i64 4]) (ok := fun _ => True) (okp := fun _ => True) ?hr ?hp (fun _ hk => hk) trivial (Below.refl _ _) (Nat.le_refl _) (by simp) ?_; (case hd => rfl); (case hg => rfl); (case hr => first | (go_simp; done) | (go_simp; rfl)); (case hp => exact (Reps.one (show Kd.M (Kd.int .i64) _ _ _ (2) [.int .i64 (2)] from rfl) (Reps.one (show Kd.M (Kd.int .i64) _ _ _ (1) [.int .i64 (1)] from rfl) (Reps.one (show Kd.M (Kd.int .i64) _ _ _ (4) [.int .i64 (4)] from rfl) (Reps.none _ _))))); intro va1 wr2 ho hb hg_ hnew_; clear hg_ hnew_; obtain ⟨At1, ct1, rfl⟩ := Kd.R_slice ho; have A1_2 := Lib.hid (show Kd.R (Kd.int .i64) 2 wr2 w.heap.size (fun _ => True) (.slice At1 3 ct1) ([2, 1, 4] : List Int) from Kd.R_lower ho (below_size B_1.out)); have B_2 := Lib.hid (below_step B_1.out hb); have F_2 := Lib.hid (F_1.out.below hb); have G_2 := Lib.hid (G_1.out.below hb); have Q_2 := Lib.hid (Kd.R_below Q_1.out hb); have A0_2 := Lib.hid (Kd.R_below A0_1.out hb); clear ho hb B_1 F_1 G_1 Q_1 A0_1)
    | ((with_reducible refine gate_dst (N := 35) rfl ?_); refine Kd.R_lit (Kd.int .i64) _ 2 ?hg (N := 35) ?hd (xs := ([1, 3, 4] : List Int)) (inner := [.int .i64 1, .int .i64 3, .int .i64 4]) (ok := fun _ => True) (okp := fun _ => True) ?hr ?hp (fun _ hk => hk) trivial (Below.refl _ _) (Nat.le_refl _) (by simp) ?_; (case hd => rfl); (case hg => rfl); (case hr => first | (go_simp; done) | (go_simp; rfl)); (case hp => exact (Reps.one (show Kd.M (Kd.int .i64) _ _ _ (1) [.int .i64 (1)] from rfl) (Reps.one (show Kd.M (Kd.int .i64) _ _ _ (3) [.int .i64 (3)] from rfl) (Reps.one (show Kd.M (Kd.int .i64) _ _ _ (4) [.int .i64 (4)] from rfl) (Reps.none _ _))))); intro va2 wr3 ho hb hg_ hnew_; clear hg_ hnew_; obtain ⟨At2, ct2, rfl⟩ := Kd.R_slice ho; have A2_3 := Lib.hid (show Kd.R (Kd.int .i64) 2 wr3 w.heap.size (fun _ => True) (.slice At2 3 ct2) ([1, 3, 4] : List Int) from Kd.R_lower ho (below_size B_2.out)); have B_3 := Lib.hid (below_step B_2.out hb); have F_3 := Lib.hid (F_2.out.below hb); have G_3 := Lib.hid (G_2.out.below hb); have Q_3 := Lib.hid (Kd.R_below Q_2.out hb); have A0_3 := Lib.hid (Kd.R_below A0_2.out hb); have A1_3 := Lib.hid (Kd.R_below A1_2.out hb); clear ho hb B_2 F_2 G_2 Q_2 A0_2 A1_2)
    | ((with_reducible refine gate_dst (N := 36) rfl ?_); refine Kd.R_lit (Kd.int .i64) _ 2 ?hg (N := 36) ?hd (xs := ([3, 0, 4] : List Int)) (inner := [.int .i64 3, .int .i64 0, .int .i64 4]) (ok := fun _ => True) (okp := fun _ => True) ?hr ?hp (fun _ hk => hk) trivial (Below.refl _ _) (Nat.le_refl _) (by simp) ?_; (case hd => rfl); (case hg => rfl); (case hr => first | (go_simp; done) | (go_simp; rfl)); (case hp => exact (Reps.one (show Kd.M (Kd.int .i64) _ _ _ (3) [.int .i64 (3)] from rfl) (Reps.one (show Kd.M (Kd.int .i64) _ _ _ (0) [.int .i64 (0)] from rfl) (Reps.one (show Kd.M (Kd.int .i64) _ _ _ (4) [.int .i64 (4)] from rfl) (Reps.none _ _))))); intro va3 wr4 ho hb hg_ hnew_; clear hg_ hnew_; obtain ⟨At3, ct3, rfl⟩ := Kd.R_slice ho; have A3_4 := Lib.hid (show Kd.R (Kd.int .i64) 2 wr4 w.heap.size (fun _ => True) (.slice At3 3 ct3) ([3, 0, 4] : List Int) from Kd.R_lower ho (below_size B_3.out)); have B_4 := Lib.hid (below_step B_3.out hb); have F_4 := Lib.hid (F_3.out.below hb); have G_4 := Lib.hid (G_3.out.below hb); have Q_4 := Lib.hid (Kd.R_below Q_3.out hb); have A0_4 := Lib.hid (Kd.R_below A0_3.out hb); have A1_4 := Lib.hid (Kd.R_below A1_3.out hb); have A2_4 := Lib.hid (Kd.R_below A2_3.out hb); clear ho hb B_3 F_3 G_3 Q_3 A0_3 A1_3 A2_3)
    | ((with_reducible refine gate_dst (N := 37) rfl ?_); refine Kd.R_lit (Kd.int .i64) _ 2 ?hg (N := 37) ?hd (xs := ([2, 0, 5] : List Int)) (inner := [.int .i64 2, .int .i64 0, .int .i64 5]) (ok := fun _ => True) (okp := fun _ => True) ?hr ?hp (fun _ hk => hk) trivial (Below.refl _ _) (Nat.le_refl _) (by simp) ?_; (case hd => rfl); (case hg => rfl); (case hr => first | (go_simp; done) | (go_simp; rfl)); (case hp => exact (Reps.one (show Kd.M (Kd.int .i64) _ _ _ (2) [.int .i64 (2)] from rfl) (Reps.one (show Kd.M (Kd.int .i64) _ _ _ (0) [.int .i64 (0)] from rfl) (Reps.one (show Kd.M (Kd.int .i64) _ _ _ (5) [.int .i64 (5)] from rfl) (Reps.none _ _))))); intro va4 wr5 ho hb hg_ hnew_; clear hg_ hnew_; obtain ⟨At4, ct4, rfl⟩ := Kd.R_slice ho; have A4_5 := Lib.hid (show Kd.R (Kd.int .i64) 2 wr5 w.heap.size (fun _ => True) (.slice At4 3 ct4) ([2, 0, 5] : List Int) from Kd.R_lower ho (below_size B_4.out)); have B_5 := Lib.hid (below_step B_4.out hb); have F_5 := Lib.hid (F_4.out.below hb); have G_5 := Lib.hid (G_4.out.below hb); have Q_5 := Lib.hid (Kd.R_below Q_4.out hb); have A0_5 := Lib.hid (Kd.R_below A0_4.out hb); have A1_5 := Lib.hid (Kd.R_below A1_4.out hb); have A2_5 := Lib.hid (Kd.R_below A2_4.out hb); have A3_5 := Lib.hid (Kd.R_below A3_4.out hb); clear ho hb B_4 F_4 G_4 Q_4 A0_4 A1_4 A2_4 A3_4)
    | ((with_reducible refine gate_dst (N := 38) rfl ?_); refine Kd.R_lit (Kd.int .i64) _ 2 ?hg (N := 38) ?hd (xs := ([1, 2, 5] : List Int)) (inner := [.int .i64 1, .int .i64 2, .int .i64 5]) (ok := fun _ => True) (okp := fun _ => True) ?hr ?hp (fun _ hk => hk) trivial (Below.refl _ _) (Nat.le_refl _) (by simp) ?_; (case hd => rfl); (case hg => rfl); (case hr => first | (go_simp; done) | (go_simp; rfl)); (case hp => exact (Reps.one (show Kd.M (Kd.int .i64) _ _ _ (1) [.int .i64 (1)] from rfl) (Reps.one (show Kd.M (Kd.int .i64) _ _ _ (2) [.int .i64 (2)] from rfl) (Reps.one (show Kd.M (Kd.int .i64) _ _ _ (5) [.int .i64 (5)] from rfl) (Reps.none _ _))))); intro va5 wr6 ho hb hg_ hnew_; clear hg_ hnew_; obtain ⟨At5, ct5, rfl⟩ := Kd.R_slice ho; have A5_6 := Lib.hid (show Kd.R (Kd.int .i64) 2 wr6 w.heap.size (fun _ => True) (.slice At5 3 ct5) ([1, 2, 5] : List Int) from Kd.R_lower ho (below_size B_5.out)); have B_6 := Lib.hid (below_step B_5.out hb); have F_6 := Lib.hid (F_5.out.below hb); have G_6 := Lib.hid (G_5.out.below hb); have Q_6 := Lib.hid (Kd.R_below Q_5.out hb); have A0_6 := Lib.hid (Kd.R_below A0_5.out hb); have A1_6 := Lib.hid (Kd.R_below A1_5.out hb); have A2_6 := Lib.hid (Kd.R_below A2_5.out hb); have A3_6 := Lib.hid (Kd.R_below A3_5.out hb); have A4_6 := Lib.hid (Kd.R_below A4_5.out hb); clear ho hb B_5 F_5 G_5 Q_5 A0_5 A1_5 A2_5 A3_5 A4_5)
    | ((with_reducible refine gate_dst (N := 39) rfl ?_); refine Kd.R_lit (Kd.int .i64) _ 2 ?hg (N := 39) ?hd (xs := ([3, 1, 5] : List Int)) (inner := [.int .i64 3, .int .i64 1, .int .i64 5]) (ok := fun _ => True) (okp := fun _ => True) ?hr ?hp (fun _ hk => hk) trivial (Below.refl _ _) (Nat.le_refl _) (by simp) ?_; (case hd => rfl); (case hg => rfl); (case hr => first | (go_simp; done) | (go_simp; rfl)); (case hp => exact (Reps.one (show Kd.M (Kd.int .i64) _ _ _ (3) [.int .i64 (3)] from rfl) (Reps.one (show Kd.M (Kd.int .i64) _ _ _ (1) [.int .i64 (1)] from rfl) (Reps.one (show Kd.M (Kd.int .i64) _ _ _ (5) [.int .i64 (5)] from rfl) (Reps.none _ _))))); intro va6 wr7 ho hb hg_ hnew_; clear hg_ hnew_; obtain ⟨At6, ct6, rfl⟩ := Kd.R_slice ho; have A6_7 := Lib.hid (show Kd.R (Kd.int .i64) 2 wr7 w.heap.size (fun _ => True) (.slice At6 3 ct6) ([3, 1, 5] : List Int) from Kd.R_lower ho (below_size B_6.out)); have B_7 := Lib.hid (below_step B_6.out hb); have F_7 := Lib.hid (F_6.out.below hb); have G_7 := Lib.hid (G_6.out.below hb); have Q_7 := Lib.hid (Kd.R_below Q_6.out hb); have A0_7 := Lib.hid (Kd.R_below A0_6.out hb); have A1_7 := Lib.hid (Kd.R_below A1_6.out hb); have A2_7 := Lib.hid (Kd.R_below A2_6.out hb); have A3_7 := Lib.hid (Kd.R_below A3_6.out hb); have A4_7 := Lib.hid (Kd.R_below A4_6.out hb); have A5_7 := Lib.hid (Kd.R_below A5_6.out hb); clear ho hb B_6 F_6 G_6 Q_6 A0_6 A1_6 A2_6 A3_6 A4_6 A5_6)
    | ((with_reducible refine gate_dst (N := 40) rfl ?_); refine Kd.R_lit (Kd.int .i64) _ 2 ?hg (N := 40) ?hd (xs := ([0, 3, 5] : List Int)) (inner := [.int .i64 0, .int .i64 3, .int .i64 5]) (ok := fun _ => True) (okp := fun _ => True) ?hr ?hp (fun _ hk => hk) trivial (Below.refl _ _) (Nat.le_refl _) (by simp) ?_; (case hd => rfl); (case hg => rfl); (case hr => first | (go_simp; done) | (go_simp; rfl)); (case hp => exact (Reps.one (show Kd.M (Kd.int .i64) _ _ _ (0) [.int .i64 (0)] from rfl) (Reps.one (show Kd.M (Kd.int .i64) _ _ _ (3) [.int .i64 (3)] from rfl) (Reps.one (show Kd.M (Kd.int .i64) _ _ _ (5) [.int .i64 (5)] from rfl) (Reps.none _ _))))); intro va7 wr8 ho hb hg_ hnew_; clear hg_ hnew_; obtain ⟨At7, ct7, rfl⟩ := Kd.R_slice ho; have A7_8 := Lib.hid (show Kd.R (Kd.int .i64) 2 wr8 w.heap.size (fun _ => True) (.slice At7 3 ct7) ([0, 3, 5] : List Int) from Kd.R_lower ho (below_size B_7.out)); have B_8 := Lib.hid (below_step B_7.out hb); have F_8 := Lib.hid (F_7.out.below hb); have G_8 := Lib.hid (G_7.out.below hb); have Q_8 := Lib.hid (Kd.R_below Q_7.out hb); have A0_8 := Lib.hid (Kd.R_below A0_7.out hb); have A1_8 := Lib.hid (Kd.R_below A1_7.out hb); have A2_8 := Lib.hid (Kd.R_below A2_7.out hb); have A3_8 := Lib.hid (Kd.R_below A3_7.out hb); have A4_8 := Lib.hid (Kd.R_below A4_7.out hb); have A5_8 := Lib.hid (Kd.R_below A5_7.out hb); have A6_8 := Lib.hid (Kd.R_below A6_7.out hb); clear ho hb B_7 F_7 G_7 Q_7 A0_7 A1_7 A2_7 A3_7 A4_7 A5_7 A6_7)
    | ((with_reducible refine gate_dst (N := 41) rfl ?_); refine Kd.R_lit (Kd.slice 2 (Kd.int .i64)) w.heap.size 34 ?hg (N := 41) ?hd (xs := ([[0, 2, 4], [2, 1, 4], [1, 3, 4], [3, 0, 4], [2, 0, 5], [1, 2, 5], [3, 1, 5], [0, 3, 5]] : List (List Int))) (inner := [.slice At0 3 ct0, .slice At1 3 ct1, .slice At2 3 ct2, .slice At3 3 ct3, .slice At4 3 ct4, .slice At5 3 ct5, .slice At6 3 ct6, .slice At7 3 ct7]) (ok := fun _ => True) (okp := fun _ => True) ?hr ?hp (fun _ hk => hk) trivial B_8.out (below_size B_8.out) (by decide) ?_; (case hd => rfl); (case hg => rfl); (case hr => first | (go_simp; done) | (go_simp; rfl)); (case hp => exact (Reps.one (Kd.M_row A0_8.out) (Reps.one (Kd.M_row A1_8.out) (Reps.one (Kd.M_row A2_8.out) (Reps.one (Kd.M_row A3_8.out) (Reps.one (Kd.M_row A4_8.out) (Reps.one (Kd.M_row A5_8.out) (Reps.one (Kd.M_row A6_8.out) (Reps.one (Kd.M_row A7_8.out) (Reps.none _ _)))))))))); intro vt w9 ho hb hg_ hnew_; have hv : Below wr8.heap.size wr8 w9 := Below.grown (Below.refl _ _) hg_ (Nat.le_refl _) (fun k hk => by cases hk); clear hg_ hnew_; obtain ⟨Ar, cr, rfl⟩ := Kd.R_slice ho; have T9 := Lib.hid (show Kd.R (Kd.slice 2 (Kd.int .i64)) 34 w9 w.heap.size (fun _ => True) (.slice Ar 8 cr) octT from ho); have B9 := Lib.hid hb; have hF := F_8.out.below hv; have hG := G_8.out.below hv; have Q9 := Lib.hid (Kd.R_below Q_8.out hv); have gd0 := hG.c0; have gd1 := hG.c1; have gz1 := blk_frozen hG 1;  have F9 := Lib.hid hF; have G9 := Lib.hid hG; clear ho hb hv hF hG B_8 F_8 G_8 Q_8 A0_8 A1_8 A2_8 A3_8 A4_8 A5_8 A6_8 A7_8)
    | (go_at_call 45; obtain ⟨w10, hw10⟩ : ∃ W, W = w9.setCell ⟨g, 1, none⟩ (.slice Ar 8 cr) := ⟨_, rfl⟩; have B10 : Below w.heap.size w w10 := (by rw [hw10]; exact below_set B9.out (by omega)); have n1 : w.heap.size ≠ g := (by omega); have F10 : BoxAt w10 w.heap.size 30 (.slice none 0 0) (.slice none 0 0) := (by rw [hw10]; exact blk_far F9.out n1 _); have G10 : BoxAt w10 g 30 (.slice Ap 6 cp) (.slice Ar 8 cr) := (by rw [hw10]; exact blk_put G9.out 1 _ rfl); have Q10 := (Kd.R_reads' (show Kd.R k59 59 w10 w.heap.size (fun _ => True) (.slice Ap 6 cp) octP by rw [hw10]; exact R_boxset Q9.out G9.out (by decide) 1 _)).2.2; have T10 := (Kd.R_reads' (show Kd.R (Kd.slice 2 (Kd.int .i64)) 34 w10 w.heap.size (fun _ => True) (.slice Ar 8 cr) octT by rw [hw10]; exact R_boxset T9.out G9.out (by decide) 1 _)).2.2; rw [← hw10]; clear hw10 gd0 gd1 gz1; refine (spec_l02Edges.callsV 10000 g octP octT _ w10 w10 ⟨Ap, cp, Ar, cr, G10, trivial, Q10, T10⟩ (Below.refl _ _) (edges_f octP octT (by decide +kernel))).mono ?_; rintro E u ⟨ve, rfl, hS, -, hb, -⟩; rw [show edgesL octP.length octT = octE from oct_edges] at hS; obtain ⟨Ae, ce, rfl⟩ : ∃ A c, ve = .slice A 12 c := Kd.S_slice hS; obtain ⟨-, e2_, e3_⟩ := Kd.S_reads' hS; have BU := Lib.hid (below_step B10 hb); have FU := Lib.hid (BoxAt.below F10 hb); have GU := Lib.hid (BoxAt.below G10 hb); have CQ := Lib.hid (show Kd.C k59 u Ap 6 octP from Kd.C_below Q10 hb); have CT := Lib.hid (show Kd.C (Kd.slice 2 (Kd.int .i64)) u Ar 8 octT from Kd.C_below T10 hb); have CE := Lib.hid (show Kd.C (Kd.slice 2 (Kd.int .i64)) u Ae 12 octE from e3_); have ce12 : 12 ≤ ce := e2_; have gd0 := GU.out.c0; clear hS hb B10 F10 G10 Q10 T10 e2_ e3_ n1 B9 F9 G9 Q9 T9)
    | (go_at_call 65; refine (spec_l02OwnV g Ap cp octP Ar cr octT u GU.out CQ.out CT.out (by decide) (by decide) (by decide)).mono ?_; rintro E w13 ⟨v0_, v1_, rfl, hR, hS, hb⟩; obtain ⟨Aq, cq, rfl⟩ : ∃ A c, v0_ = .slice A 6 c := Kd.R_slice hR; obtain ⟨Am, cm, rfl⟩ : ∃ A c, v1_ = .slice A 8 c := Kd.S_slice hS; have B13 := Lib.hid hb; have R13 := Lib.hid hR; clear hR hS hb gd0)
    | fail)
  obtain ⟨w14, hw14⟩ : ∃ W, W = w13.alloc (.cells #[.slice Aq 6 cq, .slice Am 8 cm] 30) := ⟨_, rfl⟩
  have hv14 : Below w13.heap.size w13 w14 := by rw [hw14]; exact below_alloc (Below.refl _ _) _
  have hG14 : BoxAt w14 w13.heap.size 30 (.slice Aq 6 cq) (.slice Am 8 cm) := by rw [hw14]; exact BoxAt.new w13 30 _ _
  have hu := B13.out.size
  have B14 := Lib.hid (below_step B13.out hv14); have R14 := Lib.hid (Kd.R_below R13.out hv14)
  rw [← hw14]
  clear hw14 hv14 B13 R13
  generalize w13.heap.size = h at *
  have G14 := Lib.hid hG14
  clear hG14
  have gse := blk_lt GU.out
  have fse := blk_lt FU.out
  go_loopw [9] (fun kk wr => ∃ (i : Nat) (l : List S59) (vq : Value), i ≤ 12 ∧ kk = .int .i64 (i : Int) ∧ Hid (Below u.heap.size u wr) ∧ Hid (BoxAt wr h 30 vq (.slice Am 8 cm)) ∧ Hid (simP l (mE i)) ∧ Hid (Kd.R k59 59 wr u.heap.size (fun _ => True) vq l)) (fun k _ => 12 - (intOf k).toNat)
  case atStart => exact ⟨0, octP, .slice Aq 6 cq, Nat.zero_le _, rfl, B14, G14, Lib.hid (by rw [mE_zero]; exact oct_self), R14⟩
  case round =>
    clear B14 G14 R14
    obtain ⟨i, l, vq, hi, rfl, HB, HG, HP, HR⟩ := hrel
    by_cases hlt : i < 12
    · have i1 : (i : Int) < 12 := by omega
      have i2 : (0 : Int) ≤ (i : Int) := by omega
      have i3 : (i : Int) < 9223372036854775807 := by omega
      have hll : Hid (l.length ≤ 18) := Lib.hid (by have h1_ := HP.out.1; rw [h1_]; unfold mE; rw [List.length_append, List.length_map, List.length_take]; show 6 + min i 12 ≤ 18; omega)
      obtain ⟨a, b, hab, a0, a1, b0, b1, hstep⟩ := octE_at i hlt
      obtain ⟨ade, Ax, cx, eA, xe, hlx, hx⟩ := at_L3 CE.out (i : Int) i2 i1
      rw [hab] at xe hlx hx
      obtain ⟨adx, rfl, x0⟩ := Kd.at_int hx 0 (by simp) (by simp)
      obtain ⟨_, ex, x1⟩ := Kd.at_int hx 1 (by simp) (by simp)
      cases ex
      replace xe : u.cell? (ade.add i) = some (.slice (some adx) 2 cx) := xe
      replace x0 : u.cell? adx = some (.int .i64 a) := x0
      replace x1 : u.cell? ⟨adx.block, adx.off + 1, none⟩ = some (.int .i64 b) := x1
      obtain ⟨adp, eP, y0, y1, y2⟩ := at_T59 CQ.out a a0 a1
      obtain ⟨_, eP2, z0, z1, z2⟩ := at_T59 CQ.out b b0 b1
      subst eA
      subst eP
      cases eP2
      generalize rd_T59 octP a = X at *
      generalize rd_T59 octP b = Y at *
      obtain ⟨X0, X1, X2⟩ := X
      obtain ⟨Y0, Y1, Y2⟩ := Y
      have HST := Lib.hid hstep
      clear hab hx hlx hstep hi
      have HSB := Lib.hid (fun (W : World) (k : Below u.heap.size u W) => (⟨G9.old_cell9 k GU.out.c0, G9.old_cell9 k xe, G9.old_cell9 k x0, G9.old_cell9 k x1, G9.old_cell9 k y0, G9.old_cell9 k y1, G9.old_cell9 k y2, G9.old_cell9 k z0, G9.old_cell9 k z1, G9.old_cell9 k z2⟩ : W.cell? ⟨g, 0, none⟩ = some (.slice (some adp) 6 cp) ∧ W.cell? (ade.add i) = some (.slice (some adx) 2 cx) ∧ W.cell? adx = some (.int .i64 a) ∧ W.cell? ⟨adx.block, adx.off + 1, none⟩ = some (.int .i64 b) ∧ W.cell? (adp.add (a.toNat * 3)) = some (.float .f32 X0) ∧ W.cell? ⟨(adp.add (a.toNat * 3)).block, (adp.add (a.toNat * 3)).off + 1, none⟩ = some (.float .f32 X1) ∧ W.cell? ⟨(adp.add (a.toNat * 3)).block, (adp.add (a.toNat * 3)).off + 2, none⟩ = some (.float .f32 X2) ∧ W.cell? (adp.add (b.toNat * 3)) = some (.float .f32 Y0) ∧ W.cell? ⟨(adp.add (b.toNat * 3)).block, (adp.add (b.toNat * 3)).off + 1, none⟩ = some (.float .f32 Y1) ∧ W.cell? ⟨(adp.add (b.toNat * 3)).block, (adp.add (b.toNat * 3)).off + 2, none⟩ = some (.float .f32 Y2)))
      clear xe x0 x1 y0 y1 y2 z0 z1 z2
      replace a0 := eq_true a0; replace a1 := eq_true a1; replace b0 := eq_true b0; replace b1 := eq_true b1
      go_wp2_with fail
      have d_B : Below u.heap.size u wr.drew := below_step HB.out (Below.drew (Below.refl _ _))
      have d_G : BoxAt wr.drew h 30 vq (.slice Am 8 cm) := HG.out
      have d_R := Kd.R_drew HR.out
      clear HB HG HR
      refine start_ (n := 24) (S := fun w' => w'.cell? ⟨g, 0, none⟩ = some (.slice (some adp) 6 cp) ∧ w'.cell? (ade.add i) = some (.slice (some adx) 2 cx) ∧ w'.cell? adx = some (.int .i64 a) ∧ w'.cell? ⟨adx.block, adx.off + 1, none⟩ = some (.int .i64 b) ∧ w'.cell? (adp.add (a.toNat * 3)) = some (.float .f32 X0) ∧ w'.cell? ⟨(adp.add (a.toNat * 3)).block, (adp.add (a.toNat * 3)).off + 1, none⟩ = some (.float .f32 X1) ∧ w'.cell? ⟨(adp.add (a.toNat * 3)).block, (adp.add (a.toNat * 3)).off + 2, none⟩ = some (.float .f32 X2) ∧ w'.cell? (adp.add (b.toNat * 3)) = some (.float .f32 Y0) ∧ w'.cell? ⟨(adp.add (b.toNat * 3)).block, (adp.add (b.toNat * 3)).off + 1, none⟩ = some (.float .f32 Y1) ∧ w'.cell? ⟨(adp.add (b.toNat * 3)).block, (adp.add (b.toNat * 3)).off + 2, none⟩ = some (.float .f32 Y2)) (ds := [23]) #[false, false, false, false, false, false, false, false, false, false, false, false, false, false, false, false, false, false, false, false, false, false, false, false] (by kernel_rfl) rfl rfl (HSB.out _ d_B) (fun hHeld => ?_)
      generalize wr.drew = w15 at d_B d_G d_R hHeld ⊢
      refine pure_ (i := 0) (N := (some 57)) (v := ?_) (a' := ?_) #[true, false, false, false, false, false, false, false, false, false, false, false, false, false, false, false, false, false, false, false, false, false, false, false] rfl rfl (by kernel_rfl) (fun _ _ _ h => h) (Or.inl ⟨by rfl, ?_⟩) ?_ ?_
      rotate_left
      · intro w'
        go_simp
        with_reducible rfl
      rotate_left
      · simp only [Act.put, List.setIfInBounds_toArray, List.set_cons_zero, List.set_cons_succ, i64_w, i32_w]; rfl
      refine pure_ (i := 2) (N := (some 59)) (v := ?_) (a' := ?_) #[true, false, true, false, false, false, false, false, false, false, false, false, false, false, false, false, false, false, false, false, false, false, false, false] rfl rfl (by kernel_rfl) (fun _ _ _ h => h) (Or.inl ⟨by rfl, ?_⟩) ?_ ?_
      rotate_left
      · intro w'
        go_simp
        with_reducible rfl
      rotate_left
      · simp only [Act.put, List.setIfInBounds_toArray, List.set_cons_zero, List.set_cons_succ, i64_w, i32_w]; rfl
      refine pure_ (i := 3) (N := (some 60)) (v := ?_) (a' := ?_) #[true, false, true, true, false, false, false, false, false, false, false, false, false, false, false, false, false, false, false, false, false, false, false, false] rfl rfl (by kernel_rfl) (fun _ _ _ h => h) (Or.inl ⟨by rfl, ?_⟩) ?_ ?_
      rotate_left
      · intro w'
        go_simp
        with_reducible rfl
      rotate_left
      · simp only [Act.put, List.setIfInBounds_toArray, List.set_cons_zero, List.set_cons_succ, i64_w, i32_w]; rfl
      refine pure_ (i := 4) (N := (some 61)) (v := ?_) (a' := ?_) #[true, false, true, true, true, false, false, false, false, false, false, false, false, false, false, false, false, false, false, false, false, false, false, false] rfl rfl (by kernel_rfl) (fun _ _ _ h => h) (Or.inl ⟨by rfl, ?_⟩) ?_ ?_
      rotate_left
      · intro w'
        go_simp
        with_reducible rfl
      rotate_left
      · simp only [Act.put, List.setIfInBounds_toArray, List.set_cons_zero, List.set_cons_succ, i64_w, i32_w]; rfl
      refine pure_ (i := 10) (N := (some 67)) (v := ?_) (a' := ?_) #[true, false, true, true, true, false, false, false, false, false, true, false, false, false, false, false, false, false, false, false, false, false, false, false] rfl rfl (by kernel_rfl) (fun _ _ _ h => h) (Or.inl ⟨by rfl, ?_⟩) ?_ ?_
      rotate_left
      · intro w'
        go_simp
        with_reducible rfl
      rotate_left
      · simp only [Act.put, List.setIfInBounds_toArray, List.set_cons_zero, List.set_cons_succ, i64_w, i32_w]; rfl
      refine pure_ (i := 12) (N := (some 69)) (v := ?_) (a' := ?_) #[true, false, true, true, true, false, false, false, false, false, true, false, true, false, false, false, false, false, false, false, false, false, false, false] rfl rfl (by kernel_rfl) (fun _ _ _ h => h) (Or.inl ⟨by rfl, ?_⟩) ?_ ?_
      rotate_left
      · intro w'
        go_simp
        with_reducible rfl
      rotate_left
      · simp only [Act.put, List.setIfInBounds_toArray, List.set_cons_zero, List.set_cons_succ, i64_w, i32_w]; rfl
      refine pure_ (i := 13) (N := (some 70)) (v := ?_) (a' := ?_) #[true, false, true, true, true, false, false, false, false, false, true, false, true, true, false, false, false, false, false, false, false, false, false, false] rfl rfl (by kernel_rfl) (fun _ _ _ h => h) (Or.inl ⟨by rfl, ?_⟩) ?_ ?_
      rotate_left
      · intro w'
        go_simp
        with_reducible rfl
      rotate_left
      · simp only [Act.put, List.setIfInBounds_toArray, List.set_cons_zero, List.set_cons_succ, i64_w, i32_w]; rfl
      refine pure_ (i := 14) (N := (some 71)) (v := ?_) (a' := ?_) #[true, false, true, true, true, false, false, false, false, false, true, false, true, true, true, false, false, false, false, false, false, false, false, false] rfl rfl (by kernel_rfl) (fun _ _ _ h => h) (Or.inl ⟨by rfl, ?_⟩) ?_ ?_
      rotate_left
      · intro w'
        go_simp
        with_reducible rfl
      rotate_left
      · simp only [Act.put, List.setIfInBounds_toArray, List.set_cons_zero, List.set_cons_succ, i64_w, i32_w]; rfl
      refine take_ (i := 1) (N := (some 58)) (v := ?_) (a' := ?_) #[true, true, true, true, true, false, false, false, false, false, true, false, true, true, true, false, false, false, false, false, false, false, false, false] rfl rfl (by kernel_rfl) (fun _ _ _ h => h) (Or.inl ⟨by rfl, ?_⟩) hHeld ?_ ?_
      rotate_left
      · intro w' hSw
        (try dsimp only at hSw)
        go_simp
        with_reducible rfl
      rotate_left
      · simp only [Act.put, List.setIfInBounds_toArray, List.set_cons_zero, List.set_cons_succ, i64_w, i32_w]; rfl
      refine take_ (i := 5) (N := (some 62)) (v := ?_) (a' := ?_) #[true, true, true, true, true, true, false, false, false, false, true, false, true, true, true, false, false, false, false, false, false, false, false, false] rfl rfl (by kernel_rfl) (fun _ _ _ h => h) (Or.inl ⟨by rfl, ?_⟩) hHeld ?_ ?_
      rotate_left
      · intro w' hSw
        (try dsimp only at hSw)
        go_simp
        with_reducible rfl
      rotate_left
      · simp only [Act.put, List.setIfInBounds_toArray, List.set_cons_zero, List.set_cons_succ, i64_w, i32_w]; rfl
      refine pure_ (i := 6) (N := (some 63)) (v := ?_) (a' := ?_) #[true, true, true, true, true, true, true, false, false, false, true, false, true, true, true, false, false, false, false, false, false, false, false, false] rfl rfl (by kernel_rfl) (fun _ _ _ h => h) (Or.inl ⟨by rfl, ?_⟩) ?_ ?_
      rotate_left
      · intro w'
        go_simp
        with_reducible rfl
      rotate_left
      · simp only [Act.put, List.setIfInBounds_toArray, List.set_cons_zero, List.set_cons_succ, i64_w, i32_w]; rfl
      refine take_ (i := 7) (N := (some 64)) (v := ?_) (a' := ?_) #[true, true, true, true, true, true, true, true, false, false, true, false, true, true, true, false, false, false, false, false, false, false, false, false] rfl rfl (by kernel_rfl) (fun _ _ _ h => h) (Or.inl ⟨by rfl, ?_⟩) hHeld ?_ ?_
      rotate_left
      · intro w' hSw
        (try dsimp only at hSw)
        go_simp
        with_reducible rfl
      rotate_left
      · simp only [Act.put, List.setIfInBounds_toArray, List.set_cons_zero, List.set_cons_succ, i64_w, i32_w]; rfl
      refine pure_ (i := 8) (N := (some 65)) (v := ?_) (a' := ?_) #[true, true, true, true, true, true, true, true, true, false, true, false, true, true, true, false, false, false, false, false, false, false, false, false] rfl rfl (by kernel_rfl) (fun _ _ _ h => h) (Or.inl ⟨by rfl, ?_⟩) ?_ ?_
      rotate_left
      · intro w'
        go_simp
        with_reducible rfl
      rotate_left
      · simp only [Act.put, List.setIfInBounds_toArray, List.set_cons_zero, List.set_cons_succ, i64_w, i32_w]; rfl
      refine take_ (i := 9) (N := (some 66)) (v := ?_) (a' := ?_) #[true, true, true, true, true, true, true, true, true, true, true, false, true, true, true, false, false, false, false, false, false, false, false, false] rfl rfl (by kernel_rfl) (fun _ _ _ h => h) (Or.inl ⟨by rfl, ?_⟩) hHeld ?_ ?_
      rotate_left
      · intro w' hSw
        (try dsimp only at hSw)
        go_simp
        with_reducible rfl
      rotate_left
      · simp only [Act.put, List.setIfInBounds_toArray, List.set_cons_zero, List.set_cons_succ, i64_w, i32_w]; rfl
      refine take_ (i := 11) (N := (some 68)) (v := ?_) (a' := ?_) #[true, true, true, true, true, true, true, true, true, true, true, true, true, true, true, false, false, false, false, false, false, false, false, false] rfl rfl (by kernel_rfl) (fun _ _ _ h => h) (Or.inl ⟨by rfl, ?_⟩) hHeld ?_ ?_
      rotate_left
      · intro w' hSw
        (try dsimp only at hSw)
        go_simp
        with_reducible rfl
      rotate_left
      · simp only [Act.put, List.setIfInBounds_toArray, List.set_cons_zero, List.set_cons_succ, i64_w, i32_w]; rfl
      refine take_ (i := 15) (N := (some 72)) (v := ?_) (a' := ?_) #[true, true, true, true, true, true, true, true, true, true, true, true, true, true, true, true, false, false, false, false, false, false, false, false] rfl rfl (by kernel_rfl) (fun _ _ _ h => h) (Or.inl ⟨by rfl, ?_⟩) hHeld ?_ ?_
      rotate_left
      · intro w' hSw
        (try dsimp only at hSw)
        go_simp
        with_reducible rfl
      rotate_left
      · simp only [Act.put, List.setIfInBounds_toArray, List.set_cons_zero, List.set_cons_succ, i64_w, i32_w]; rfl
      refine pure_ (i := 16) (N := (some 73)) (v := ?_) (a' := ?_) #[true, true, true, true, true, true, true, true, true, true, true, true, true, true, true, true, true, false, false, false, false, false, false, false] rfl rfl (by kernel_rfl) (fun _ _ _ h => h) (Or.inl ⟨by rfl, ?_⟩) ?_ ?_
      rotate_left
      · intro w'
        go_simp
        with_reducible rfl
      rotate_left
      · simp only [Act.put, List.setIfInBounds_toArray, List.set_cons_zero, List.set_cons_succ, i64_w, i32_w]; rfl
      refine take_ (i := 17) (N := (some 74)) (v := ?_) (a' := ?_) #[true, true, true, true, true, true, true, true, true, true, true, true, true, true, true, true, true, true, false, false, false, false, false, false] rfl rfl (by kernel_rfl) (fun _ _ _ h => h) (Or.inl ⟨by rfl, ?_⟩) hHeld ?_ ?_
      rotate_left
      · intro w' hSw
        (try dsimp only at hSw)
        go_simp
        with_reducible rfl
      rotate_left
      · simp only [Act.put, List.setIfInBounds_toArray, List.set_cons_zero, List.set_cons_succ, i64_w, i32_w]; rfl
      refine pure_ (i := 18) (N := (some 75)) (v := ?_) (a' := ?_) #[true, true, true, true, true, true, true, true, true, true, true, true, true, true, true, true, true, true, true, false, false, false, false, false] rfl rfl (by kernel_rfl) (fun _ _ _ h => h) (Or.inl ⟨by rfl, ?_⟩) ?_ ?_
      rotate_left
      · intro w'
        go_simp
        with_reducible rfl
      rotate_left
      · simp only [Act.put, List.setIfInBounds_toArray, List.set_cons_zero, List.set_cons_succ, i64_w, i32_w]; rfl
      refine take_ (i := 19) (N := (some 76)) (v := ?_) (a' := ?_) #[true, true, true, true, true, true, true, true, true, true, true, true, true, true, true, true, true, true, true, true, false, false, false, false] rfl rfl (by kernel_rfl) (fun _ _ _ h => h) (Or.inl ⟨by rfl, ?_⟩) hHeld ?_ ?_
      rotate_left
      · intro w' hSw
        (try dsimp only at hSw)
        go_simp
        with_reducible rfl
      rotate_left
      · simp only [Act.put, List.setIfInBounds_toArray, List.set_cons_zero, List.set_cons_succ, i64_w, i32_w]; rfl
      refine join_ (σ := Nat × Nat × Nat × Nat × Nat × Nat × Nat) 1 #[true, true, true, true, true, true, true, true, true, true, true, true, true, true, true, true, true, true, true, true, true, true, true, false] (fun s_ => [(77, .agg #[.float .f32 s_.1, .float .f32 s_.2.1, .float .f32 s_.2.2.1]), (78, .agg #[.float .f32 s_.2.2.2.1, .float .f32 s_.2.2.2.2.1, .float .f32 s_.2.2.2.2.2.1]), (10, .pointer (some ⟨s_.2.2.2.2.2.2, 0, none⟩))]) (fun s_ w' => (Below u.heap.size u w') ∧ (BoxAt w' h 30 vq (.slice Am 8 cm)) ∧ (Kd.R k59 59 w' u.heap.size (fun _ => True) vq l) ∧ (FR .f32 s_.1 (bin .add .f32 (val .f32 X0) (val .f32 Y0))) ∧ (FR .f32 s_.2.1 (bin .add .f32 (val .f32 X1) (val .f32 Y1))) ∧ (FR .f32 s_.2.2.1 (bin .add .f32 (val .f32 X2) (val .f32 Y2))) ∧ (FR .f32 s_.2.2.2.1 (bin .mul .f32 (val .f32 s_.1) (val .f32 1056964608))) ∧ (FR .f32 s_.2.2.2.2.1 (bin .mul .f32 (val .f32 s_.2.1) (val .f32 1056964608))) ∧ (FR .f32 s_.2.2.2.2.2.1 (bin .mul .f32 (val .f32 s_.2.2.1) (val .f32 1056964608))) ∧ (BoxT w' s_.2.2.2.2.2.2 59 0 0 0) ∧ (u.heap.size ≤ s_.2.2.2.2.2.2) ∧ (h ≠ s_.2.2.2.2.2.2) ∧ (Kd.R k59 59 w' u.heap.size (fun k => k ≠ s_.2.2.2.2.2.2) vq l)) ?_ ?_
      rotate_left
      · intro hN_c20_c21_a22
        refine join_ (σ := Nat × Nat × Nat × Nat × Nat × Nat) 2 #[true, true, true, true, true, true, true, true, true, true, true, true, true, true, true, true, true, true, true, true, true, true, false, false] (fun s_ => [(77, .agg #[.float .f32 s_.1, .float .f32 s_.2.1, .float .f32 s_.2.2.1]), (78, .agg #[.float .f32 s_.2.2.2.1, .float .f32 s_.2.2.2.2.1, .float .f32 s_.2.2.2.2.2])]) (fun s_ w' => (Below u.heap.size u w') ∧ (BoxAt w' h 30 vq (.slice Am 8 cm)) ∧ (Kd.R k59 59 w' u.heap.size (fun _ => True) vq l) ∧ (FR .f32 s_.1 (bin .add .f32 (val .f32 X0) (val .f32 Y0))) ∧ (FR .f32 s_.2.1 (bin .add .f32 (val .f32 X1) (val .f32 Y1))) ∧ (FR .f32 s_.2.2.1 (bin .add .f32 (val .f32 X2) (val .f32 Y2))) ∧ (FR .f32 s_.2.2.2.1 (bin .mul .f32 (val .f32 s_.1) (val .f32 1056964608))) ∧ (FR .f32 s_.2.2.2.2.1 (bin .mul .f32 (val .f32 s_.2.1) (val .f32 1056964608))) ∧ (FR .f32 s_.2.2.2.2.2 (bin .mul .f32 (val .f32 s_.2.2.1) (val .f32 1056964608)))) ?_ ?_
        · skip
          rintro ⟨ma, mb, mc, na, nb, nc⟩ wn ⟨f_B, f_G, f_R, f_ma, f_mb, f_mc, f_na, f_nb, f_nc⟩
          replace f_B : Below u.heap.size u wn := f_B
          replace f_G : BoxAt wn h 30 vq (.slice Am 8 cm) := f_G
          replace f_R : Kd.R k59 59 wn u.heap.size (fun _ => True) vq l := f_R
          replace f_ma : FR .f32 ma (bin .add .f32 (val .f32 X0) (val .f32 Y0)) := f_ma
          replace f_mb : FR .f32 mb (bin .add .f32 (val .f32 X1) (val .f32 Y1)) := f_mb
          replace f_mc : FR .f32 mc (bin .add .f32 (val .f32 X2) (val .f32 Y2)) := f_mc
          replace f_na : FR .f32 na (bin .mul .f32 (val .f32 ma) (val .f32 1056964608)) := f_na
          replace f_nb : FR .f32 nb (bin .mul .f32 (val .f32 mb) (val .f32 1056964608)) := f_nb
          replace f_nc : FR .f32 nc (bin .mul .f32 (val .f32 mc) (val .f32 1056964608)) := f_nc
          refine norm_ (a' := ?_) ?_ ?_
          rotate_left
          · simp only [putAll, Act.put, List.setIfInBounds_toArray, List.set_cons_zero, List.set_cons_succ]; rfl
          refine one_ (i := 22) (N := (some 10)) #[true, true, true, true, true, true, true, true, true, true, true, true, true, true, true, true, true, true, true, true, true, true, true, false] rfl rfl (by kernel_rfl) (by decide) (fun K hK => ?_)
          refine value_ (w1 := ?_) (v := ?_) (by rfl) rfl ?_ ?_
          rotate_left 2
          · go_simp
            constructor
            · rfl
            · rfl
          obtain ⟨wz, hwz⟩ : ∃ W', W' = wn.alloc (.cells #[.float .f32 0, .float .f32 0, .float .f32 0] 59) := ⟨_, rfl⟩
          obtain ⟨gp, hgp⟩ : ∃ q, q = wn.heap.size := ⟨_, rfl⟩
          have m_T : BoxT wz gp 59 0 0 0 := by rw [hwz, hgp]; exact BoxT.new _ _ _ _ _
          have m_U : u.heap.size ≤ gp := by rw [hgp]; exact f_B.size
          have m_N : h ≠ gp := by rw [hgp]; have := blk_lt f_G; omega
          have hb : Below wn.heap.size wn wz := by rw [hwz]; exact below_alloc (Below.refl _ _) _
          have m_Q : Kd.R k59 59 wz u.heap.size (fun k => k ≠ gp) vq l := Kd.R_below (Kd.R_mono (Kd.R_elderB f_R gp (by rw [hgp]; exact Nat.le_refl _)) (fun _ hk => hk.2)) hb
          rw [← hwz, ← hgp]
          clear hwz hgp
          have m_B := below_step f_B hb
          have m_G := f_G.below hb
          have m_R := Kd.R_below f_R hb
          have m_ma := f_ma
          have m_mb := f_mb
          have m_mc := f_mc
          have m_na := f_na
          have m_nb := f_nb
          have m_nc := f_nc
          refine hK.out _ _ (HSB.out _ m_B) (fun hHeld => ?_)
          clear hK K
          refine norm_ (a' := ?_) ?_ ?_
          rotate_left
          · show Act.put _ (some 10) _ = _
            simp only [Act.put, List.setIfInBounds_toArray, List.set_cons_zero, List.set_cons_succ, i64_w, i32_w]
            rfl
          exact norm_ (by simp only [putAll, Act.put, List.setIfInBounds_toArray, List.set_cons_zero, List.set_cons_succ]) (hN_c20_c21_a22 (ma, mb, mc, na, nb, nc, gp) _ ⟨m_B, m_G, m_R, m_ma, m_mb, m_mc, m_na, m_nb, m_nc, m_T, m_U, m_N, m_Q⟩)
        intro hN_c20_c21
        refine join_ (σ := Nat × Nat × Nat × Nat) 2 #[true, true, true, true, true, true, true, true, true, true, true, true, true, true, true, true, true, true, true, true, true, false, true, false] (fun s_ => [(77, .agg #[.float .f32 s_.1, .float .f32 s_.2.1, .float .f32 s_.2.2.1]), (10, .pointer (some ⟨s_.2.2.2, 0, none⟩))]) (fun s_ w' => (Below u.heap.size u w') ∧ (BoxAt w' h 30 vq (.slice Am 8 cm)) ∧ (Kd.R k59 59 w' u.heap.size (fun _ => True) vq l) ∧ (FR .f32 s_.1 (bin .add .f32 (val .f32 X0) (val .f32 Y0))) ∧ (FR .f32 s_.2.1 (bin .add .f32 (val .f32 X1) (val .f32 Y1))) ∧ (FR .f32 s_.2.2.1 (bin .add .f32 (val .f32 X2) (val .f32 Y2))) ∧ (BoxT w' s_.2.2.2 59 0 0 0) ∧ (u.heap.size ≤ s_.2.2.2) ∧ (h ≠ s_.2.2.2) ∧ (Kd.R k59 59 w' u.heap.size (fun k => k ≠ s_.2.2.2) vq l)) ?_ ?_
        · skip
          rintro ⟨ma, mb, mc, gp⟩ wn ⟨f_B, f_G, f_R, f_ma, f_mb, f_mc, f_T, f_U, f_N, f_Q⟩
          replace f_B : Below u.heap.size u wn := f_B
          replace f_G : BoxAt wn h 30 vq (.slice Am 8 cm) := f_G
          replace f_R : Kd.R k59 59 wn u.heap.size (fun _ => True) vq l := f_R
          replace f_ma : FR .f32 ma (bin .add .f32 (val .f32 X0) (val .f32 Y0)) := f_ma
          replace f_mb : FR .f32 mb (bin .add .f32 (val .f32 X1) (val .f32 Y1)) := f_mb
          replace f_mc : FR .f32 mc (bin .add .f32 (val .f32 X2) (val .f32 Y2)) := f_mc
          replace f_T : BoxT wn gp 59 0 0 0 := f_T
          replace f_U : u.heap.size ≤ gp := f_U
          replace f_N : h ≠ gp := f_N
          replace f_Q : Kd.R k59 59 wn u.heap.size (fun k => k ≠ gp) vq l := f_Q
          refine norm_ (a' := ?_) ?_ ?_
          rotate_left
          · simp only [putAll, Act.put, List.setIfInBounds_toArray, List.set_cons_zero, List.set_cons_succ]; rfl
          refine one_ (i := 21) (N := (some 78)) #[true, true, true, true, true, true, true, true, true, true, true, true, true, true, true, true, true, true, true, true, true, true, true, false] rfl rfl (by kernel_rfl) (by decide) (fun K hK => ?_)
          refine goes_ Try.func98 (by kernel_rfl) rfl #[.agg #[.float .f32 ma, .float .f32 mb, .float .f32 mc], .float .f32 1056964608] (by rfl) rfl rfl (by (try simp only [List.map_toArray, List.map_cons, List.map_nil]); first | done | rfl) ?_
          refine (spec_l01Scale ma mb mc 1056964608 _).mono ?_
          rintro E wz ⟨na, nb, nc, rfl, m_na, m_nb, m_nc, hb⟩
          refine ⟨_, rfl, ?_⟩
          have m_B := below_step f_B hb
          have m_G := f_G.below hb
          have m_R := Kd.R_below f_R hb
          have m_ma := f_ma
          have m_mb := f_mb
          have m_mc := f_mc
          have m_T := f_T.below hb
          have m_U := f_U
          have m_N := f_N
          have m_Q := Kd.R_below f_Q hb
          refine hK.out _ _ (HSB.out _ m_B) (fun hHeld => ?_)
          clear hK K
          refine norm_ (a' := ?_) ?_ ?_
          rotate_left
          · show Act.put _ (some 78) _ = _
            simp only [Act.put, List.setIfInBounds_toArray, List.set_cons_zero, List.set_cons_succ, i64_w, i32_w]
            rfl
          exact norm_ (by simp only [putAll, Act.put, List.setIfInBounds_toArray, List.set_cons_zero, List.set_cons_succ]) (hN_c20_c21_a22 (ma, mb, mc, na, nb, nc, gp) _ ⟨m_B, m_G, m_R, m_ma, m_mb, m_mc, m_na, m_nb, m_nc, m_T, m_U, m_N, m_Q⟩)
        intro hN_c20_a22
        refine join_ (σ := Nat × Nat × Nat) 3 #[true, true, true, true, true, true, true, true, true, true, true, true, true, true, true, true, true, true, true, true, true, false, false, false] (fun s_ => [(77, .agg #[.float .f32 s_.1, .float .f32 s_.2.1, .float .f32 s_.2.2])]) (fun s_ w' => (Below u.heap.size u w') ∧ (BoxAt w' h 30 vq (.slice Am 8 cm)) ∧ (Kd.R k59 59 w' u.heap.size (fun _ => True) vq l) ∧ (FR .f32 s_.1 (bin .add .f32 (val .f32 X0) (val .f32 Y0))) ∧ (FR .f32 s_.2.1 (bin .add .f32 (val .f32 X1) (val .f32 Y1))) ∧ (FR .f32 s_.2.2 (bin .add .f32 (val .f32 X2) (val .f32 Y2)))) ?_ ?_
        · skip
          rintro ⟨ma, mb, mc⟩ wn ⟨f_B, f_G, f_R, f_ma, f_mb, f_mc⟩
          replace f_B : Below u.heap.size u wn := f_B
          replace f_G : BoxAt wn h 30 vq (.slice Am 8 cm) := f_G
          replace f_R : Kd.R k59 59 wn u.heap.size (fun _ => True) vq l := f_R
          replace f_ma : FR .f32 ma (bin .add .f32 (val .f32 X0) (val .f32 Y0)) := f_ma
          replace f_mb : FR .f32 mb (bin .add .f32 (val .f32 X1) (val .f32 Y1)) := f_mb
          replace f_mc : FR .f32 mc (bin .add .f32 (val .f32 X2) (val .f32 Y2)) := f_mc
          refine norm_ (a' := ?_) ?_ ?_
          rotate_left
          · simp only [putAll, Act.put, List.setIfInBounds_toArray, List.set_cons_zero, List.set_cons_succ]; rfl
          refine two_ (i := 21) (j := 22) (Ni := (some 78)) (Nj := (some 10)) #[true, true, true, true, true, true, true, true, true, true, true, true, true, true, true, true, true, true, true, true, true, true, false, false] #[true, true, true, true, true, true, true, true, true, true, true, true, true, true, true, true, true, true, true, true, true, false, true, false] rfl rfl rfl rfl (by kernel_rfl) (by decide) (by decide) (fun K hK => ?_) (fun K hK => ?_) 
          · skip
            refine goes_ Try.func98 (by kernel_rfl) rfl #[.agg #[.float .f32 ma, .float .f32 mb, .float .f32 mc], .float .f32 1056964608] (by rfl) rfl rfl (by (try simp only [List.map_toArray, List.map_cons, List.map_nil]); first | done | rfl) ?_
            refine (spec_l01Scale ma mb mc 1056964608 _).mono ?_
            rintro E wz ⟨na, nb, nc, rfl, m_na, m_nb, m_nc, hb⟩
            refine ⟨_, rfl, ?_⟩
            have m_B := below_step f_B hb
            have m_G := f_G.below hb
            have m_R := Kd.R_below f_R hb
            have m_ma := f_ma
            have m_mb := f_mb
            have m_mc := f_mc
            refine hK.out _ _ (HSB.out _ m_B) (fun hHeld => ?_)
            clear hK K
            refine norm_ (a' := ?_) ?_ ?_
            rotate_left
            · show Act.put _ (some 78) _ = _
              simp only [Act.put, List.setIfInBounds_toArray, List.set_cons_zero, List.set_cons_succ, i64_w, i32_w]
              rfl
            exact norm_ (by simp only [putAll, Act.put, List.setIfInBounds_toArray, List.set_cons_zero, List.set_cons_succ]) (hN_c20_c21 (ma, mb, mc, na, nb, nc) _ ⟨m_B, m_G, m_R, m_ma, m_mb, m_mc, m_na, m_nb, m_nc⟩)
          · skip
            refine value_ (w1 := ?_) (v := ?_) (by rfl) rfl ?_ ?_
            rotate_left 2
            · go_simp
              constructor
              · rfl
              · rfl
            obtain ⟨wz, hwz⟩ : ∃ W', W' = wn.alloc (.cells #[.float .f32 0, .float .f32 0, .float .f32 0] 59) := ⟨_, rfl⟩
            obtain ⟨gp, hgp⟩ : ∃ q, q = wn.heap.size := ⟨_, rfl⟩
            have m_T : BoxT wz gp 59 0 0 0 := by rw [hwz, hgp]; exact BoxT.new _ _ _ _ _
            have m_U : u.heap.size ≤ gp := by rw [hgp]; exact f_B.size
            have m_N : h ≠ gp := by rw [hgp]; have := blk_lt f_G; omega
            have hb : Below wn.heap.size wn wz := by rw [hwz]; exact below_alloc (Below.refl _ _) _
            have m_Q : Kd.R k59 59 wz u.heap.size (fun k => k ≠ gp) vq l := Kd.R_below (Kd.R_mono (Kd.R_elderB f_R gp (by rw [hgp]; exact Nat.le_refl _)) (fun _ hk => hk.2)) hb
            rw [← hwz, ← hgp]
            clear hwz hgp
            have m_B := below_step f_B hb
            have m_G := f_G.below hb
            have m_R := Kd.R_below f_R hb
            have m_ma := f_ma
            have m_mb := f_mb
            have m_mc := f_mc
            refine hK.out _ _ (HSB.out _ m_B) (fun hHeld => ?_)
            clear hK K
            refine norm_ (a' := ?_) ?_ ?_
            rotate_left
            · show Act.put _ (some 10) _ = _
              simp only [Act.put, List.setIfInBounds_toArray, List.set_cons_zero, List.set_cons_succ, i64_w, i32_w]
              rfl
            exact norm_ (by simp only [putAll, Act.put, List.setIfInBounds_toArray, List.set_cons_zero, List.set_cons_succ]) (hN_c20_a22 (ma, mb, mc, gp) _ ⟨m_B, m_G, m_R, m_ma, m_mb, m_mc, m_T, m_U, m_N, m_Q⟩)
        intro hN_c20
        refine join_ (σ := Nat) 3 #[true, true, true, true, true, true, true, true, true, true, true, true, true, true, true, true, true, true, true, true, false, false, true, false] (fun s_ => [(10, .pointer (some ⟨s_, 0, none⟩))]) (fun s_ w' => (Below u.heap.size u w') ∧ (BoxAt w' h 30 vq (.slice Am 8 cm)) ∧ (Kd.R k59 59 w' u.heap.size (fun _ => True) vq l) ∧ (BoxT w' s_ 59 0 0 0) ∧ (u.heap.size ≤ s_) ∧ (h ≠ s_) ∧ (Kd.R k59 59 w' u.heap.size (fun k => k ≠ s_) vq l)) ?_ ?_
        · skip
          rintro gp wn ⟨f_B, f_G, f_R, f_T, f_U, f_N, f_Q⟩
          replace f_B : Below u.heap.size u wn := f_B
          replace f_G : BoxAt wn h 30 vq (.slice Am 8 cm) := f_G
          replace f_R : Kd.R k59 59 wn u.heap.size (fun _ => True) vq l := f_R
          replace f_T : BoxT wn gp 59 0 0 0 := f_T
          replace f_U : u.heap.size ≤ gp := f_U
          replace f_N : h ≠ gp := f_N
          replace f_Q : Kd.R k59 59 wn u.heap.size (fun k => k ≠ gp) vq l := f_Q
          refine norm_ (a' := ?_) ?_ ?_
          rotate_left
          · simp only [putAll, Act.put, List.setIfInBounds_toArray, List.set_cons_zero, List.set_cons_succ]; rfl
          refine one_ (i := 20) (N := (some 77)) #[true, true, true, true, true, true, true, true, true, true, true, true, true, true, true, true, true, true, true, true, true, false, true, false] rfl rfl (by kernel_rfl) (by decide) (fun K hK => ?_)
          refine goes_ Try.func67 (by kernel_rfl) rfl #[.agg #[.float .f32 X0, .float .f32 X1, .float .f32 X2], .agg #[.float .f32 Y0, .float .f32 Y1, .float .f32 Y2]] (by rfl) rfl rfl (by (try simp only [List.map_toArray, List.map_cons, List.map_nil]); first | done | rfl) ?_
          refine (spec_l01Add X0 X1 X2 Y0 Y1 Y2 _).mono ?_
          rintro E wz ⟨ma, mb, mc, rfl, m_ma, m_mb, m_mc, hb⟩
          refine ⟨_, rfl, ?_⟩
          have m_B := below_step f_B hb
          have m_G := f_G.below hb
          have m_R := Kd.R_below f_R hb
          have m_T := f_T.below hb
          have m_U := f_U
          have m_N := f_N
          have m_Q := Kd.R_below f_Q hb
          refine hK.out _ _ (HSB.out _ m_B) (fun hHeld => ?_)
          clear hK K
          refine norm_ (a' := ?_) ?_ ?_
          rotate_left
          · show Act.put _ (some 77) _ = _
            simp only [Act.put, List.setIfInBounds_toArray, List.set_cons_zero, List.set_cons_succ, i64_w, i32_w]
            rfl
          exact norm_ (by simp only [putAll, Act.put, List.setIfInBounds_toArray, List.set_cons_zero, List.set_cons_succ]) (hN_c20_a22 (ma, mb, mc, gp) _ ⟨m_B, m_G, m_R, m_ma, m_mb, m_mc, m_T, m_U, m_N, m_Q⟩)
        intro hN_a22
        refine two_ (i := 20) (j := 22) (Ni := (some 77)) (Nj := (some 10)) #[true, true, true, true, true, true, true, true, true, true, true, true, true, true, true, true, true, true, true, true, true, false, false, false] #[true, true, true, true, true, true, true, true, true, true, true, true, true, true, true, true, true, true, true, true, false, false, true, false] rfl rfl rfl rfl (by kernel_rfl) (by decide) (by decide) (fun K hK => ?_) (fun K hK => ?_) 
        · skip
          refine goes_ Try.func67 (by kernel_rfl) rfl #[.agg #[.float .f32 X0, .float .f32 X1, .float .f32 X2], .agg #[.float .f32 Y0, .float .f32 Y1, .float .f32 Y2]] (by rfl) rfl rfl (by (try simp only [List.map_toArray, List.map_cons, List.map_nil]); first | done | rfl) ?_
          refine (spec_l01Add X0 X1 X2 Y0 Y1 Y2 _).mono ?_
          rintro E wz ⟨ma, mb, mc, rfl, m_ma, m_mb, m_mc, hb⟩
          refine ⟨_, rfl, ?_⟩
          have m_B := below_step d_B hb
          have m_G := d_G.below hb
          have m_R := Kd.R_below d_R hb
          refine hK.out _ _ (HSB.out _ m_B) (fun hHeld => ?_)
          clear hK K
          refine norm_ (a' := ?_) ?_ ?_
          rotate_left
          · show Act.put _ (some 77) _ = _
            simp only [Act.put, List.setIfInBounds_toArray, List.set_cons_zero, List.set_cons_succ, i64_w, i32_w]
            rfl
          exact norm_ (by simp only [putAll, Act.put, List.setIfInBounds_toArray, List.set_cons_zero, List.set_cons_succ]) (hN_c20 (ma, mb, mc) _ ⟨m_B, m_G, m_R, m_ma, m_mb, m_mc⟩)
        · skip
          refine value_ (w1 := ?_) (v := ?_) (by rfl) rfl ?_ ?_
          rotate_left 2
          · go_simp
            constructor
            · rfl
            · rfl
          obtain ⟨wz, hwz⟩ : ∃ W', W' = w15.alloc (.cells #[.float .f32 0, .float .f32 0, .float .f32 0] 59) := ⟨_, rfl⟩
          obtain ⟨gp, hgp⟩ : ∃ q, q = w15.heap.size := ⟨_, rfl⟩
          have m_T : BoxT wz gp 59 0 0 0 := by rw [hwz, hgp]; exact BoxT.new _ _ _ _ _
          have m_U : u.heap.size ≤ gp := by rw [hgp]; exact d_B.size
          have m_N : h ≠ gp := by rw [hgp]; have := blk_lt d_G; omega
          have hb : Below w15.heap.size w15 wz := by rw [hwz]; exact below_alloc (Below.refl _ _) _
          have m_Q : Kd.R k59 59 wz u.heap.size (fun k => k ≠ gp) vq l := Kd.R_below (Kd.R_mono (Kd.R_elderB d_R gp (by rw [hgp]; exact Nat.le_refl _)) (fun _ hk => hk.2)) hb
          rw [← hwz, ← hgp]
          clear hwz hgp
          have m_B := below_step d_B hb
          have m_G := d_G.below hb
          have m_R := Kd.R_below d_R hb
          refine hK.out _ _ (HSB.out _ m_B) (fun hHeld => ?_)
          clear hK K
          refine norm_ (a' := ?_) ?_ ?_
          rotate_left
          · show Act.put _ (some 10) _ = _
            simp only [Act.put, List.setIfInBounds_toArray, List.set_cons_zero, List.set_cons_succ, i64_w, i32_w]
            rfl
          exact norm_ (by simp only [putAll, Act.put, List.setIfInBounds_toArray, List.set_cons_zero, List.set_cons_succ]) (hN_a22 (gp) _ ⟨m_B, m_G, m_R, m_T, m_U, m_N, m_Q⟩)
      rintro ⟨ma, mb, mc, na, nb, nc, gp⟩ wl ⟨f_B, f_G, f_R, f_ma, f_mb, f_mc, f_na, f_nb, f_nc, f_T, f_U, f_N, f_Q⟩
      replace f_B : Below u.heap.size u wl := f_B
      replace f_G : BoxAt wl h 30 vq (.slice Am 8 cm) := f_G
      replace f_R : Kd.R k59 59 wl u.heap.size (fun _ => True) vq l := f_R
      replace f_ma : FR .f32 ma (bin .add .f32 (val .f32 X0) (val .f32 Y0)) := f_ma
      replace f_mb : FR .f32 mb (bin .add .f32 (val .f32 X1) (val .f32 Y1)) := f_mb
      replace f_mc : FR .f32 mc (bin .add .f32 (val .f32 X2) (val .f32 Y2)) := f_mc
      replace f_na : FR .f32 na (bin .mul .f32 (val .f32 ma) (val .f32 1056964608)) := f_na
      replace f_nb : FR .f32 nb (bin .mul .f32 (val .f32 mb) (val .f32 1056964608)) := f_nb
      replace f_nc : FR .f32 nc (bin .mul .f32 (val .f32 mc) (val .f32 1056964608)) := f_nc
      replace f_T : BoxT wl gp 59 0 0 0 := f_T
      replace f_U : u.heap.size ≤ gp := f_U
      replace f_N : h ≠ gp := f_N
      replace f_Q : Kd.R k59 59 wl u.heap.size (fun k => k ≠ gp) vq l := f_Q
      refine norm_ (a' := ?_) ?_ ?_
      rotate_left
      · simp only [putAll, Act.put, List.setIfInBounds_toArray, List.set_cons_zero, List.set_cons_succ]; rfl
      refine last_ (i := 23) (N := none) #[true, true, true, true, true, true, true, true, true, true, true, true, true, true, true, true, true, true, true, true, true, true, true, true] rfl rfl (by kernel_rfl) (by decide) (fun K hK => ?_)
      have t0_ := f_T.c0; have t1_ := f_T.c1; have t2_ := f_T.c2; have y0_ := blk_frozen f_T 0; have y1_ := blk_frozen f_T 1; have y2_ := blk_frozen f_T 2
      refine skip_ (w1 := ?_) (by rfl) rfl ?_ ?_
      rotate_left
      · go_simp
        rfl
      refine hK.out _ _ ?_
      clear hK K
      clear t0_ t1_ t2_ y0_ y1_ y2_
      refine done_ (by kernel_rfl) ?_
      obtain ⟨w16, hw16⟩ : ∃ W, W = (((wl.setCell ⟨gp, 0, none⟩ (.float .f32 na)).setCell ⟨gp, 1, none⟩ (.float .f32 nb)).setCell ⟨gp, 2, none⟩ (.float .f32 nc)) := ⟨_, rfl⟩
      rw [← hw16]
      have HS := Lib.hid (half_sim (X := ⟨X0, X1, X2⟩) (Y := ⟨Y0, Y1, Y2⟩) f_ma f_mb f_mc f_na f_nb f_nc)
      have q1 := blk_put f_T 0 (.float .f32 na) rfl
      have q2 := blk_put q1 1 (.float .f32 nb) rfl
      have hT16 : BoxT w16 gp 59 na nb nc := by rw [hw16]; exact blk_put q2 2 (.float .f32 nc) rfl
      have hB16 : Below u.heap.size u w16 := by rw [hw16]; exact below_set (below_set (below_set f_B f_U) f_U) f_U
      have hG16 : BoxAt w16 h 30 vq (.slice Am 8 cm) := by rw [hw16]; exact blk_far (blk_far (blk_far f_G f_N _) f_N _) f_N _
      have hR16 : Kd.R k59 59 w16 u.heap.size (fun k => k ≠ gp) vq l := by rw [hw16]; exact (Kd.R_grown (Kd.R_grown (Kd.R_grown f_Q (grownBy_set wl gp 0 _) (fun k hk e => hk (Option.some.inj e))) (grownBy_set _ gp 1 _) (fun k hk e => hk (Option.some.inj e))) (grownBy_set _ gp 2 _) (fun k hk e => hk (Option.some.inj e)))
      clear hw16 q1 q2 f_B f_G f_R f_Q f_T f_N f_ma f_mb f_mc f_na f_nb f_nc HSB
      go_wp2_with fail
      have d_B : Below u.heap.size u w16.drew := below_step hB16 (Below.drew (Below.refl _ _))
      have d_G : BoxAt w16.drew h 30 vq (.slice Am 8 cm) := hG16
      have d_R := Kd.R_drew hR16
      have d_T : BoxT w16.drew gp 59 na nb nc := hT16
      clear hB16 hG16 hR16 hT16
      refine start_ (n := 12) (S := fun w' => w'.cell? ⟨h, 0, none⟩ = some vq ∧ w'.cell? ⟨gp, 0, none⟩ = some (.float .f32 na) ∧ w'.cell? ⟨gp, 1, none⟩ = some (.float .f32 nb) ∧ w'.cell? ⟨gp, 2, none⟩ = some (.float .f32 nc)) (ds := [11]) #[false, false, false, false, false, false, false, false, false, false, false, false] (by kernel_rfl) rfl rfl ⟨d_G.c0, d_T.c0, d_T.c1, d_T.c2⟩ (fun hHeld => ?_)
      generalize w16.drew = w17 at d_B d_G d_R d_T hHeld ⊢
      refine pure_ (i := 0) (N := (some 79)) (v := ?_) (a' := ?_) #[true, false, false, false, false, false, false, false, false, false, false, false] rfl rfl (by kernel_rfl) (fun _ _ _ h => h) (Or.inl ⟨by rfl, ?_⟩) ?_ ?_
      rotate_left
      · intro w'
        go_simp
        with_reducible rfl
      rotate_left
      · simp only [Act.put, List.setIfInBounds_toArray, List.set_cons_zero, List.set_cons_succ, i64_w, i32_w]; rfl
      refine pure_ (i := 3) (N := (some 82)) (v := ?_) (a' := ?_) #[true, false, false, true, false, false, false, false, false, false, false, false] rfl rfl (by kernel_rfl) (fun _ _ _ h => h) (Or.inl ⟨by rfl, ?_⟩) ?_ ?_
      rotate_left
      · intro w'
        go_simp
        with_reducible rfl
      rotate_left
      · simp only [Act.put, List.setIfInBounds_toArray, List.set_cons_zero, List.set_cons_succ, i64_w, i32_w]; rfl
      refine take_ (i := 1) (N := (some 80)) (v := ?_) (a' := ?_) #[true, true, false, true, false, false, false, false, false, false, false, false] rfl rfl (by kernel_rfl) (fun _ _ _ h => h) (Or.inl ⟨by rfl, ?_⟩) hHeld ?_ ?_
      rotate_left
      · intro w' hSw
        (try dsimp only at hSw)
        go_simp
        with_reducible rfl
      rotate_left
      · simp only [Act.put, List.setIfInBounds_toArray, List.set_cons_zero, List.set_cons_succ, i64_w, i32_w]; rfl
      refine take_ (i := 2) (N := (some 81)) (v := ?_) (a' := ?_) #[true, true, true, true, false, false, false, false, false, false, false, false] rfl rfl (by kernel_rfl) (fun _ _ _ h => h) (Or.inl ⟨by rfl, ?_⟩) hHeld ?_ ?_
      rotate_left
      · intro w' hSw
        (try dsimp only at hSw)
        go_simp
        with_reducible rfl
      rotate_left
      · simp only [Act.put, List.setIfInBounds_toArray, List.set_cons_zero, List.set_cons_succ, i64_w, i32_w]; rfl
      refine take_ (i := 4) (N := (some 83)) (v := ?_) (a' := ?_) #[true, true, true, true, true, false, false, false, false, false, false, false] rfl rfl (by kernel_rfl) (fun _ _ _ h => h) (Or.inl ⟨by rfl, ?_⟩) hHeld ?_ ?_
      rotate_left
      · intro w' hSw
        (try dsimp only at hSw)
        go_simp
        with_reducible rfl
      rotate_left
      · simp only [Act.put, List.setIfInBounds_toArray, List.set_cons_zero, List.set_cons_succ, i64_w, i32_w]; rfl
      refine one_ (i := 5) (N := (some 84)) #[true, true, true, true, true, true, false, false, false, false, false, false] rfl rfl (by kernel_rfl) (by decide) (fun K hK => ?_)
      refine goes_ Try.func99 (by kernel_rfl) rfl #[.agg #[.float .f32 na, .float .f32 nb, .float .f32 nc]] (by rfl) rfl rfl (by (try simp only [List.map_toArray, List.map_cons, List.map_nil]); first | done | rfl) ?_
      refine (spec_l01Long na nb nc _).mono ?_
      rintro E we ⟨r4, rfl, h4, hb⟩
      have e_B : Below u.heap.size u we := below_step d_B hb; have e_G := d_G.below hb; have e_R := Kd.R_below d_R hb; have e_T := d_T.below hb; clear d_B d_G d_R d_T hb
      refine ⟨_, rfl, ?_⟩
      refine hK.out _ _ ⟨e_G.c0, e_T.c0, e_T.c1, e_T.c2⟩ (fun hHeld => ?_)
      clear hK K
      refine norm_ (a' := ?_) ?_ ?_
      rotate_left
      · show Act.put _ (some 84) _ = _
        simp only [Act.put, List.setIfInBounds_toArray, List.set_cons_zero, List.set_cons_succ, i64_w, i32_w]
        rfl
      refine one_ (i := 6) (N := (some 85)) #[true, true, true, true, true, true, true, false, false, false, false, false] rfl rfl (by kernel_rfl) (by decide) (fun K hK => ?_)
      refine fbin_step (by rfl) rfl .quo 42 42 _ _ rfl (by decide) 1073741824 r4 (by rfl) (by rfl) ?_
      intro r5 n_ h5
      obtain ⟨wf, hwf⟩ : ∃ W', W' = we.drewN n_ := ⟨_, rfl⟩
      rw [← hwf]
      have hb : Below we.heap.size we wf := by rw [hwf]; exact pw_below_drewN (Below.refl _ _) _
      clear hwf
      have f_B : Below u.heap.size u wf := below_step e_B hb; have f_G := e_G.below hb; have f_R := Kd.R_below e_R hb; have f_T := e_T.below hb; clear e_B e_G e_R e_T hb
      refine hK.out _ _ ⟨f_G.c0, f_T.c0, f_T.c1, f_T.c2⟩ (fun hHeld => ?_)
      clear hK K
      refine norm_ (a' := ?_) ?_ ?_
      rotate_left
      · show Act.put _ (some 85) _ = _
        simp only [Act.put, List.setIfInBounds_toArray, List.set_cons_zero, List.set_cons_succ, i64_w, i32_w]
        rfl
      refine one_ (i := 7) (N := (some 86)) #[true, true, true, true, true, true, true, true, false, false, false, false] rfl rfl (by kernel_rfl) (by decide) (fun K hK => ?_)
      refine goes_ Try.func98 (by kernel_rfl) rfl #[.agg #[.float .f32 na, .float .f32 nb, .float .f32 nc], .float .f32 r5] (by rfl) rfl rfl (by (try simp only [List.map_toArray, List.map_cons, List.map_nil]); first | done | rfl) ?_
      refine (spec_l01Scale na nb nc r5 _).mono ?_
      rintro E wg ⟨pa, pb, pc, rfl, h7a, h7b, h7c, hb⟩
      have g_B : Below u.heap.size u wg := below_step f_B hb; have g_G := f_G.below hb; have g_R := Kd.R_below f_R hb; have g_T := f_T.below hb; clear f_B f_G f_R f_T hb
      have hmid := mid_sim HS.out h4 h5 h7a h7b h7c
      clear h4 h5 h7a h7b h7c HS
      refine ⟨_, rfl, ?_⟩
      refine hK.out _ _ ⟨g_G.c0, g_T.c0, g_T.c1, g_T.c2⟩ (fun hHeld => ?_)
      clear hK K
      refine norm_ (a' := ?_) ?_ ?_
      rotate_left
      · show Act.put _ (some 86) _ = _
        simp only [Act.put, List.setIfInBounds_toArray, List.set_cons_zero, List.set_cons_succ, i64_w, i32_w]
        rfl
      refine one_ (i := 8) (N := (some 87)) #[true, true, true, true, true, true, true, true, true, false, false, false] rfl rfl (by kernel_rfl) (by decide) (fun K hK => ?_)
      refine value_ (w1 := ?_) (v := ?_) (by rfl) rfl ?_ ?_
      rotate_left 2
      · go_simp
        constructor
        · rfl
        · rfl
      refine hK.out _ _ ⟨(blk_cell (blk_alloc g_G _) 0), (blk_cell (blk_alloc g_T _) 0), (blk_cell (blk_alloc g_T _) 1), (blk_cell (blk_alloc g_T _) 2)⟩ (fun hHeld => ?_)
      clear hK K
      refine norm_ (a' := ?_) ?_ ?_
      rotate_left
      · show Act.put _ (some 87) _ = _
        simp only [Act.put, List.setIfInBounds_toArray, List.set_cons_zero, List.set_cons_succ, i64_w, i32_w]
        rfl
      refine one_ (i := 9) (N := (some 88)) #[true, true, true, true, true, true, true, true, true, true, false, false] rfl rfl (by kernel_rfl) (by decide) (fun K hK => ?_)
      refine Kd.R_append_step k59 (w0 := u) u.heap.size (by rfl) (.tmp 80) (.tmp 87) 28 59 (.agg #[(.float .f32 0), (.float .f32 0), (.float .f32 0)]) 12 rfl Try.underlying28 info59 rfl (by decide) (by omega) vq l ⟨pa, pb, pc⟩ [.float .f32 pa, .float .f32 pb, .float .f32 pc] (fun k => k ≠ gp) (fun _ => False) rfl rfl (k59_mkM _ _ _ _) (fun _ hk => hk.elim) (fun k hk e => by have := blk_lt g_T; omega) g_R g_B g_B.size (by have := hll.out; omega) ?_
      intro v1_ wi ho hb hg_ hat
      have i_G := blk_grown g_G hg_ (Kd.R_ne g_R g_G (by decide))
      have i_T : BoxT wi gp 59 na nb nc := blk_grown g_T hg_ (fun e => g_R.1 gp e.symm rfl)
      obtain ⟨l2, hl2⟩ : ∃ l2, l2 = l ++ [(⟨pa, pb, pc⟩ : S59)] := ⟨_, rfl⟩
      have hp2 : simP l2 (mE (i + 1)) := by rw [hl2, HST.out]; exact simP_append HP.out (simP_one hmid)
      rw [← hl2] at ho
      have i_R : Kd.R k59 59 wi u.heap.size (fun _ => True) v1_ l2 := Kd.R_mono ho (fun _ _ => trivial)
      obtain ⟨Av, cv, rfl⟩ := Kd.R_slice ho
      have i_B := hb
      clear ho hb hg_ hat hl2 hmid g_B g_G g_R g_T HP HST
      refine hK.out _ _ ⟨BoxAt.c0 i_G, i_T.c0, i_T.c1, i_T.c2⟩ (fun hHeld => ?_)
      clear hK K
      refine norm_ (a' := ?_) ?_ ?_
      rotate_left
      · show Act.put _ (some 88) _ = _
        simp only [Act.put, List.setIfInBounds_toArray, List.set_cons_zero, List.set_cons_succ, i64_w, i32_w]
        rfl
      refine pure_ (i := 10) (N := (some 89)) (v := ?_) (a' := ?_) #[true, true, true, true, true, true, true, true, true, true, true, false] rfl rfl (by kernel_rfl) (fun _ _ _ h => h) (Or.inl ⟨by rfl, ?_⟩) ?_ ?_
      rotate_left
      · intro w'
        go_simp
        with_reducible rfl
      rotate_left
      · simp only [Act.put, List.setIfInBounds_toArray, List.set_cons_zero, List.set_cons_succ, i64_w, i32_w]; rfl
      refine last_ (i := 11) (N := none) #[true, true, true, true, true, true, true, true, true, true, true, true] rfl rfl (by kernel_rfl) (by decide) (fun K hK => ?_)
      have t0_ := BoxAt.c0 i_G; have y0_ := blk_frozen i_G 0
      refine skip_ (w1 := ?_) (by rfl) rfl ?_ ?_
      rotate_left
      · go_simp
        rfl
      refine hK.out _ _ ?_
      clear hK K
      clear t0_ y0_
      refine done_ (by kernel_rfl) ?_
      obtain ⟨wj, hwj⟩ : ∃ W, W = wi.setCell ⟨h, 0, none⟩ (.slice Av l2.length cv) := ⟨_, rfl⟩
      rw [← hwj]
      have hu1 := i_B.size
      have EB := Lib.hid (show Below u.heap.size u wj by rw [hwj]; exact below_set i_B hu)
      have EG := Lib.hid (show BoxAt wj h 30 (.slice Av l2.length cv) (.slice Am 8 cm) by rw [hwj]; exact blk_put i_G 0 _ rfl)
      have ER := Lib.hid (show Kd.R k59 59 wj u.heap.size (fun _ => True) (.slice Av l2.length cv) l2 by rw [hwj]; exact R_boxset i_R i_G (by decide) 0 _)
      have EP := Lib.hid hp2
      clear hwj i_B i_G i_R i_T hp2 hu1
      go_wp2_with fail
      exact ⟨⟨i + 1, l2, _, hlt, by simp, EB, EG, EP, ER⟩, by simp [intOf]; omega⟩
    · obtain rfl : i = 12 := by omega
      have hl : l = ballP := sim_form (formB_iff form_ball).1 (by have := HP.out; rwa [mE_all] at this)
      subst hl
      clear hlt hi HP
      go_wp2_with (first | ((with_reducible refine gate_dst (N := 90) rfl ?_); refine Kd.R_lit (Kd.slice 2 (Kd.int .i64)) u.heap.size 34 ?hg (N := 90) ?hd (xs := ([] : List (List Int))) (inner := []) (ok := fun _ => True) (okp := fun _ => True) ?hr ?hp (fun _ hk => hk) trivial HB.out HB.out.size (by simp) ?_; (case hd => rfl); (case hg => rfl); (case hr => first | (go_simp; done) | (go_simp; rfl)); (case hp => exact (Reps.none _ _)); intro vt w5 ho hb hg_ hnew_; obtain ⟨A5, c5, rfl⟩ : ∃ A c, vt = .slice A 0 c := Kd.R_slice ho; have hv : Below wr.heap.size wr w5 := Below.grown (Below.refl _ _) hg_ (Nat.le_refl _) (fun k hk => by cases hk); have B5 := Lib.hid hb; have g5 := HG.out.below hv; have gs1 := g5.c1; have gz1 := blk_frozen g5 1; have G5 := Lib.hid g5; have R5 := Lib.hid (Kd.R_below HR.out hv); have T5 := Lib.hid ho; clear hg_ hnew_ hv hb ho g5 HB HG HR) | fail)
      have hu5 := B5.out.size
      go_loopw [11] (fun kk wr => ∃ (i : Nat) (vT : Value), i ≤ 8 ∧ kk = .int .i64 (i : Int) ∧ Hid (Below u.heap.size u wr) ∧ Hid (BoxAt wr h 30 vq vT) ∧ Hid (Kd.R k59 59 wr u.heap.size (fun _ => True) vq ballP) ∧ Hid (Kd.R (Kd.slice 2 (Kd.int .i64)) 34 wr u.heap.size (fun _ => True) vT (fT i))) (fun k _ => 8 - (intOf k).toNat)
      case atStart => exact ⟨0, .slice A5 0 c5, Nat.zero_le _, rfl, Lib.hid (below_set B5.out hu), Lib.hid (blk_put G5.out 1 _ rfl), Lib.hid (R_boxset R5.out G5.out (by decide) 1 _), Lib.hid (R_boxset T5.out G5.out (by decide) 1 _)⟩
      case round =>
        clear B5 G5 R5 T5 gs1 gz1 hu5
        obtain ⟨i, vT, hi, rfl, HB, HG, HR, HT⟩ := hrel
        have gd1 := G9.old_cell9 HB.out GU.out.c1
        by_cases hlt : i < 8
        · have i1 : (i : Int) < 8 := by omega
          have i2 : (0 : Int) ≤ (i : Int) := by omega
          have i3 : (i : Int) < 9223372036854775807 := by omega
          obtain ⟨t0, t1, t2, d, e, f, rt, hd, he, hf, d0, d1, e0, e1, f0, f1, hlf0, hstep⟩ := octT_at i hlt
          obtain ⟨adr, Ax, cx, eA, xe, hlx, hx⟩ := at_L3 CT.out (i : Int) i2 i1
          rw [rt] at xe hlx hx
          obtain ⟨adx, rfl, x0⟩ := Kd.at_int hx 0 (by simp) (by simp)
          obtain ⟨_, ex, x1⟩ := Kd.at_int hx 1 (by simp) (by simp)
          cases ex
          obtain ⟨_, ex, x2⟩ := Kd.at_int hx 2 (by simp) (by simp)
          cases ex
          replace xe : u.cell? (adr.add i) = some (.slice (some adx) 3 cx) := xe
          replace x0 : u.cell? adx = some (.int .i64 t0) := x0
          replace x1 : u.cell? ⟨adx.block, adx.off + 1, none⟩ = some (.int .i64 t1) := x1
          replace x2 : u.cell? ⟨adx.block, adx.off + 2, none⟩ = some (.int .i64 t2) := x2
          subst eA
          obtain ⟨D, hD⟩ : ∃ D, D = 6 + d := ⟨_, rfl⟩
          obtain ⟨E', hE⟩ : ∃ E', E' = 6 + e := ⟨_, rfl⟩
          obtain ⟨F', hF⟩ : ∃ F', F' = 6 + f := ⟨_, rfl⟩
          have w1_ : wrap64 (6 + d) = D := by rw [hD]; exact Msh.wrap_fit (by omega) (by omega)
          have w2_ : wrap64 (6 + e) = E' := by rw [hE]; exact Msh.wrap_fit (by omega) (by omega)
          have w3_ : wrap64 (6 + f) = F' := by rw [hF]; exact Msh.wrap_fit (by omega) (by omega)
          rw [← hD, ← hE, ← hF] at hstep
          have HST := Lib.hid hstep
          have hlf := Lib.hid hlf0
          have HD := Lib.hid (fun (W : World) (k : Below u.heap.size u W) => (spec_l02Index.calls 40 Ae ce octE t0 t1 d W (Kd.C_below CE.out k) ce12 hd : Calls Try.prog 100 #[.slice Ae 12 ce, .int .i64 t0, .int .i64 t1] W fun e w' => e = .returned (.int .i64 d) ∧ Drawn0 W w'))
          have HE := Lib.hid (fun (W : World) (k : Below u.heap.size u W) => (spec_l02Index.calls 40 Ae ce octE t1 t2 e W (Kd.C_below CE.out k) ce12 he : Calls Try.prog 100 #[.slice Ae 12 ce, .int .i64 t1, .int .i64 t2] W fun e' w' => e' = .returned (.int .i64 e) ∧ Drawn0 W w'))
          have HF := Lib.hid (fun (W : World) (k : Below u.heap.size u W) => (spec_l02Index.calls 40 Ae ce octE t2 t0 f W (Kd.C_below CE.out k) ce12 hf : Calls Try.prog 100 #[.slice Ae 12 ce, .int .i64 t2, .int .i64 t0] W fun e w' => e = .returned (.int .i64 f) ∧ Drawn0 W w'))
          have HSX := Lib.hid (fun (W : World) (k : Below u.heap.size u W) => (⟨G9.old_cell9 k x0, G9.old_cell9 k x1, G9.old_cell9 k x2⟩ : W.cell? adx = some (.int .i64 t0) ∧ W.cell? ⟨adx.block, adx.off + 1, none⟩ = some (.int .i64 t1) ∧ W.cell? ⟨adx.block, adx.off + 2, none⟩ = some (.int .i64 t2)))
          have xe' := G9.old_cell9 HB.out xe
          clear rt hx hlx hstep hlf0 hd he hf d0 d1 e0 e1 f0 f1 hD hE hF x0 x1 x2 xe hi
          go_wp2_with fail
          clear gd1 xe'
          have d_B : Below u.heap.size u wr := HB.out
          have d_G : BoxAt wr h 30 vq vT := HG.out
          have d_R := HR.out
          have d_T := HT.out
          clear HB HG HR HT
          have hb := (Below.drew (Below.refl wr.heap.size wr))
          replace d_B := below_step d_B hb; replace d_G := BoxAt.below d_G hb; replace d_R := Kd.R_below d_R hb; replace d_T := Kd.R_below d_T hb
          clear hb
          refine start_ (n := 11) (S := fun w' => w'.cell? adx = some (.int .i64 t0) ∧ w'.cell? ⟨adx.block, adx.off + 1, none⟩ = some (.int .i64 t1) ∧ w'.cell? ⟨adx.block, adx.off + 2, none⟩ = some (.int .i64 t2)) (ds := []) #[false, false, false, false, false, false, false, false, false, false, false] (by kernel_rfl) rfl rfl (HSX.out _ d_B) (fun hHeld => ?_)
          generalize wr.drew = v1 at d_B d_G d_R d_T hHeld ⊢
          refine pure_ (i := 0) (N := (some 104)) (v := ?_) (a' := ?_) #[true, false, false, false, false, false, false, false, false, false, false] rfl rfl (by kernel_rfl) (fun _ _ _ h => h) (Or.inl ⟨by rfl, ?_⟩) ?_ ?_
          rotate_left
          · intro w'
            go_simp
            with_reducible rfl
          rotate_left
          · simp only [Act.put, List.setIfInBounds_toArray, List.set_cons_zero, List.set_cons_succ, i64_w, i32_w]; rfl
          refine pure_ (i := 1) (N := (some 105)) (v := ?_) (a' := ?_) #[true, true, false, false, false, false, false, false, false, false, false] rfl rfl (by kernel_rfl) (fun _ _ _ h => h) (Or.inl ⟨by rfl, ?_⟩) ?_ ?_
          rotate_left
          · intro w'
            go_simp
            with_reducible rfl
          rotate_left
          · simp only [Act.put, List.setIfInBounds_toArray, List.set_cons_zero, List.set_cons_succ, i64_w, i32_w]; rfl
          refine pure_ (i := 2) (N := (some 106)) (v := ?_) (a' := ?_) #[true, true, true, false, false, false, false, false, false, false, false] rfl rfl (by kernel_rfl) (fun _ _ _ h => h) (Or.inl ⟨by rfl, ?_⟩) ?_ ?_
          rotate_left
          · intro w'
            go_simp
            with_reducible rfl
          rotate_left
          · simp only [Act.put, List.setIfInBounds_toArray, List.set_cons_zero, List.set_cons_succ, i64_w, i32_w]; rfl
          refine pure_ (i := 3) (N := (some 107)) (v := ?_) (a' := ?_) #[true, true, true, true, false, false, false, false, false, false, false] rfl rfl (by kernel_rfl) (fun _ _ _ h => h) (Or.inl ⟨by rfl, ?_⟩) ?_ ?_
          rotate_left
          · intro w'
            go_simp
            with_reducible rfl
          rotate_left
          · simp only [Act.put, List.setIfInBounds_toArray, List.set_cons_zero, List.set_cons_succ, i64_w, i32_w]; rfl
          refine pure_ (i := 5) (N := (some 109)) (v := ?_) (a' := ?_) #[true, true, true, true, false, true, false, false, false, false, false] rfl rfl (by kernel_rfl) (fun _ _ _ h => h) (Or.inl ⟨by rfl, ?_⟩) ?_ ?_
          rotate_left
          · intro w'
            go_simp
            with_reducible rfl
          rotate_left
          · simp only [Act.put, List.setIfInBounds_toArray, List.set_cons_zero, List.set_cons_succ, i64_w, i32_w]; rfl
          refine pure_ (i := 6) (N := (some 110)) (v := ?_) (a' := ?_) #[true, true, true, true, false, true, true, false, false, false, false] rfl rfl (by kernel_rfl) (fun _ _ _ h => h) (Or.inl ⟨by rfl, ?_⟩) ?_ ?_
          rotate_left
          · intro w'
            go_simp
            with_reducible rfl
          rotate_left
          · simp only [Act.put, List.setIfInBounds_toArray, List.set_cons_zero, List.set_cons_succ, i64_w, i32_w]; rfl
          refine take_ (i := 4) (N := (some 108)) (v := ?_) (a' := ?_) #[true, true, true, true, true, true, true, false, false, false, false] rfl rfl (by kernel_rfl) (fun _ _ _ h => h) (Or.inl ⟨by rfl, ?_⟩) hHeld ?_ ?_
          rotate_left
          · intro w' hSw
            (try dsimp only at hSw)
            go_simp
            with_reducible rfl
          rotate_left
          · simp only [Act.put, List.setIfInBounds_toArray, List.set_cons_zero, List.set_cons_succ, i64_w, i32_w]; rfl
          refine take_ (i := 7) (N := (some 111)) (v := ?_) (a' := ?_) #[true, true, true, true, true, true, true, true, false, false, false] rfl rfl (by kernel_rfl) (fun _ _ _ h => h) (Or.inl ⟨by rfl, ?_⟩) hHeld ?_ ?_
          rotate_left
          · intro w' hSw
            (try dsimp only at hSw)
            go_simp
            with_reducible rfl
          rotate_left
          · simp only [Act.put, List.setIfInBounds_toArray, List.set_cons_zero, List.set_cons_succ, i64_w, i32_w]; rfl
          refine one_ (i := 8) (N := (some 112)) #[true, true, true, true, true, true, true, true, true, false, false] rfl rfl (by kernel_rfl) (by decide) (fun K hK => ?_)
          refine goes_ Try.func100 (by kernel_rfl) rfl #[.slice Ae 12 ce, .int .i64 t0, .int .i64 t1] (by rfl) rfl rfl (by (try simp only [List.map_toArray, List.map_cons, List.map_nil]); first | done | rfl) ?_
          refine (HD.out _ d_B).mono ?_
          rintro E0_ v2 ⟨rfl, hdr⟩
          have hb := hdr.below
          replace d_B := below_step d_B hb; replace d_G := BoxAt.below d_G hb; replace d_R := Kd.R_below d_R hb; replace d_T := Kd.R_below d_T hb
          clear hb hdr
          refine ⟨_, rfl, ?_⟩
          refine hK.out _ _ (HSX.out _ d_B) (fun hHeld => ?_)
          clear hK K
          refine norm_ (a' := ?_) ?_ ?_
          rotate_left
          · show Act.put _ (some 112) _ = _
            simp only [Act.put, List.setIfInBounds_toArray, List.set_cons_zero, List.set_cons_succ, i64_w, i32_w]
            rfl
          refine pure_ (i := 9) (N := (some 113)) (v := ?_) (a' := ?_) #[true, true, true, true, true, true, true, true, true, true, false] rfl rfl (by kernel_rfl) (fun _ _ _ h => h) (Or.inl ⟨by rfl, ?_⟩) ?_ ?_
          rotate_left
          · intro w'
            go_simp
            with_reducible rfl
          rotate_left
          · simp only [Act.put, List.setIfInBounds_toArray, List.set_cons_zero, List.set_cons_succ, i64_w, i32_w]; rfl
          refine pure_ (i := 10) (N := (some 13)) (v := ?_) (a' := ?_) #[true, true, true, true, true, true, true, true, true, true, true] rfl rfl (by kernel_rfl) (fun _ _ _ h => h) (Or.inl ⟨by rfl, ?_⟩) ?_ ?_
          rotate_left
          · intro w'
            go_simp
            with_reducible rfl
          rotate_left
          · simp only [Act.put, List.setIfInBounds_toArray, List.set_cons_zero, List.set_cons_succ, i64_w, i32_w]; rfl
          refine done_ (by kernel_rfl) ?_
          go_wp2_with fail
          have hb := (Below.drew (Below.refl v2.heap.size v2))
          replace d_B := below_step d_B hb; replace d_G := BoxAt.below d_G hb; replace d_R := Kd.R_below d_R hb; replace d_T := Kd.R_below d_T hb
          clear hb
          refine start_ (n := 11) (S := fun w' => w'.cell? adx = some (.int .i64 t0) ∧ w'.cell? ⟨adx.block, adx.off + 1, none⟩ = some (.int .i64 t1) ∧ w'.cell? ⟨adx.block, adx.off + 2, none⟩ = some (.int .i64 t2)) (ds := []) #[false, false, false, false, false, false, false, false, false, false, false] (by kernel_rfl) rfl rfl (HSX.out _ d_B) (fun hHeld => ?_)
          generalize v2.drew = v3 at d_B d_G d_R d_T hHeld ⊢
          refine pure_ (i := 0) (N := (some 114)) (v := ?_) (a' := ?_) #[true, false, false, false, false, false, false, false, false, false, false] rfl rfl (by kernel_rfl) (fun _ _ _ h => h) (Or.inl ⟨by rfl, ?_⟩) ?_ ?_
          rotate_left
          · intro w'
            go_simp
            with_reducible rfl
          rotate_left
          · simp only [Act.put, List.setIfInBounds_toArray, List.set_cons_zero, List.set_cons_succ, i64_w, i32_w]; rfl
          refine pure_ (i := 1) (N := (some 115)) (v := ?_) (a' := ?_) #[true, true, false, false, false, false, false, false, false, false, false] rfl rfl (by kernel_rfl) (fun _ _ _ h => h) (Or.inl ⟨by rfl, ?_⟩) ?_ ?_
          rotate_left
          · intro w'
            go_simp
            with_reducible rfl
          rotate_left
          · simp only [Act.put, List.setIfInBounds_toArray, List.set_cons_zero, List.set_cons_succ, i64_w, i32_w]; rfl
          refine pure_ (i := 2) (N := (some 116)) (v := ?_) (a' := ?_) #[true, true, true, false, false, false, false, false, false, false, false] rfl rfl (by kernel_rfl) (fun _ _ _ h => h) (Or.inl ⟨by rfl, ?_⟩) ?_ ?_
          rotate_left
          · intro w'
            go_simp
            with_reducible rfl
          rotate_left
          · simp only [Act.put, List.setIfInBounds_toArray, List.set_cons_zero, List.set_cons_succ, i64_w, i32_w]; rfl
          refine pure_ (i := 3) (N := (some 117)) (v := ?_) (a' := ?_) #[true, true, true, true, false, false, false, false, false, false, false] rfl rfl (by kernel_rfl) (fun _ _ _ h => h) (Or.inl ⟨by rfl, ?_⟩) ?_ ?_
          rotate_left
          · intro w'
            go_simp
            with_reducible rfl
          rotate_left
          · simp only [Act.put, List.setIfInBounds_toArray, List.set_cons_zero, List.set_cons_succ, i64_w, i32_w]; rfl
          refine pure_ (i := 5) (N := (some 119)) (v := ?_) (a' := ?_) #[true, true, true, true, false, true, false, false, false, false, false] rfl rfl (by kernel_rfl) (fun _ _ _ h => h) (Or.inl ⟨by rfl, ?_⟩) ?_ ?_
          rotate_left
          · intro w'
            go_simp
            with_reducible rfl
          rotate_left
          · simp only [Act.put, List.setIfInBounds_toArray, List.set_cons_zero, List.set_cons_succ, i64_w, i32_w]; rfl
          refine pure_ (i := 6) (N := (some 120)) (v := ?_) (a' := ?_) #[true, true, true, true, false, true, true, false, false, false, false] rfl rfl (by kernel_rfl) (fun _ _ _ h => h) (Or.inl ⟨by rfl, ?_⟩) ?_ ?_
          rotate_left
          · intro w'
            go_simp
            with_reducible rfl
          rotate_left
          · simp only [Act.put, List.setIfInBounds_toArray, List.set_cons_zero, List.set_cons_succ, i64_w, i32_w]; rfl
          refine take_ (i := 4) (N := (some 118)) (v := ?_) (a' := ?_) #[true, true, true, true, true, true, true, false, false, false, false] rfl rfl (by kernel_rfl) (fun _ _ _ h => h) (Or.inl ⟨by rfl, ?_⟩) hHeld ?_ ?_
          rotate_left
          · intro w' hSw
            (try dsimp only at hSw)
            go_simp
            with_reducible rfl
          rotate_left
          · simp only [Act.put, List.setIfInBounds_toArray, List.set_cons_zero, List.set_cons_succ, i64_w, i32_w]; rfl
          refine take_ (i := 7) (N := (some 121)) (v := ?_) (a' := ?_) #[true, true, true, true, true, true, true, true, false, false, false] rfl rfl (by kernel_rfl) (fun _ _ _ h => h) (Or.inl ⟨by rfl, ?_⟩) hHeld ?_ ?_
          rotate_left
          · intro w' hSw
            (try dsimp only at hSw)
            go_simp
            with_reducible rfl
          rotate_left
          · simp only [Act.put, List.setIfInBounds_toArray, List.set_cons_zero, List.set_cons_succ, i64_w, i32_w]; rfl
          refine one_ (i := 8) (N := (some 122)) #[true, true, true, true, true, true, true, true, true, false, false] rfl rfl (by kernel_rfl) (by decide) (fun K hK => ?_)
          refine goes_ Try.func100 (by kernel_rfl) rfl #[.slice Ae 12 ce, .int .i64 t1, .int .i64 t2] (by rfl) rfl rfl (by (try simp only [List.map_toArray, List.map_cons, List.map_nil]); first | done | rfl) ?_
          refine (HE.out _ d_B).mono ?_
          rintro E0_ v4 ⟨rfl, hdr⟩
          have hb := hdr.below
          replace d_B := below_step d_B hb; replace d_G := BoxAt.below d_G hb; replace d_R := Kd.R_below d_R hb; replace d_T := Kd.R_below d_T hb
          clear hb hdr
          refine ⟨_, rfl, ?_⟩
          refine hK.out _ _ (HSX.out _ d_B) (fun hHeld => ?_)
          clear hK K
          refine norm_ (a' := ?_) ?_ ?_
          rotate_left
          · show Act.put _ (some 122) _ = _
            simp only [Act.put, List.setIfInBounds_toArray, List.set_cons_zero, List.set_cons_succ, i64_w, i32_w]
            rfl
          refine pure_ (i := 9) (N := (some 123)) (v := ?_) (a' := ?_) #[true, true, true, true, true, true, true, true, true, true, false] rfl rfl (by kernel_rfl) (fun _ _ _ h => h) (Or.inl ⟨by rfl, ?_⟩) ?_ ?_
          rotate_left
          · intro w'
            go_simp
            with_reducible rfl
          rotate_left
          · simp only [Act.put, List.setIfInBounds_toArray, List.set_cons_zero, List.set_cons_succ, i64_w, i32_w]; rfl
          refine pure_ (i := 10) (N := (some 14)) (v := ?_) (a' := ?_) #[true, true, true, true, true, true, true, true, true, true, true] rfl rfl (by kernel_rfl) (fun _ _ _ h => h) (Or.inl ⟨by rfl, ?_⟩) ?_ ?_
          rotate_left
          · intro w'
            go_simp
            with_reducible rfl
          rotate_left
          · simp only [Act.put, List.setIfInBounds_toArray, List.set_cons_zero, List.set_cons_succ, i64_w, i32_w]; rfl
          refine done_ (by kernel_rfl) ?_
          go_wp2_with fail
          have hb := (Below.drew (Below.refl v4.heap.size v4))
          replace d_B := below_step d_B hb; replace d_G := BoxAt.below d_G hb; replace d_R := Kd.R_below d_R hb; replace d_T := Kd.R_below d_T hb
          clear hb
          refine start_ (n := 11) (S := fun w' => w'.cell? adx = some (.int .i64 t0) ∧ w'.cell? ⟨adx.block, adx.off + 1, none⟩ = some (.int .i64 t1) ∧ w'.cell? ⟨adx.block, adx.off + 2, none⟩ = some (.int .i64 t2)) (ds := []) #[false, false, false, false, false, false, false, false, false, false, false] (by kernel_rfl) rfl rfl (HSX.out _ d_B) (fun hHeld => ?_)
          generalize v4.drew = v5 at d_B d_G d_R d_T hHeld ⊢
          refine pure_ (i := 0) (N := (some 124)) (v := ?_) (a' := ?_) #[true, false, false, false, false, false, false, false, false, false, false] rfl rfl (by kernel_rfl) (fun _ _ _ h => h) (Or.inl ⟨by rfl, ?_⟩) ?_ ?_
          rotate_left
          · intro w'
            go_simp
            with_reducible rfl
          rotate_left
          · simp only [Act.put, List.setIfInBounds_toArray, List.set_cons_zero, List.set_cons_succ, i64_w, i32_w]; rfl
          refine pure_ (i := 1) (N := (some 125)) (v := ?_) (a' := ?_) #[true, true, false, false, false, false, false, false, false, false, false] rfl rfl (by kernel_rfl) (fun _ _ _ h => h) (Or.inl ⟨by rfl, ?_⟩) ?_ ?_
          rotate_left
          · intro w'
            go_simp
            with_reducible rfl
          rotate_left
          · simp only [Act.put, List.setIfInBounds_toArray, List.set_cons_zero, List.set_cons_succ, i64_w, i32_w]; rfl
          refine pure_ (i := 2) (N := (some 126)) (v := ?_) (a' := ?_) #[true, true, true, false, false, false, false, false, false, false, false] rfl rfl (by kernel_rfl) (fun _ _ _ h => h) (Or.inl ⟨by rfl, ?_⟩) ?_ ?_
          rotate_left
          · intro w'
            go_simp
            with_reducible rfl
          rotate_left
          · simp only [Act.put, List.setIfInBounds_toArray, List.set_cons_zero, List.set_cons_succ, i64_w, i32_w]; rfl
          refine pure_ (i := 3) (N := (some 127)) (v := ?_) (a' := ?_) #[true, true, true, true, false, false, false, false, false, false, false] rfl rfl (by kernel_rfl) (fun _ _ _ h => h) (Or.inl ⟨by rfl, ?_⟩) ?_ ?_
          rotate_left
          · intro w'
            go_simp
            with_reducible rfl
          rotate_left
          · simp only [Act.put, List.setIfInBounds_toArray, List.set_cons_zero, List.set_cons_succ, i64_w, i32_w]; rfl
          refine pure_ (i := 5) (N := (some 129)) (v := ?_) (a' := ?_) #[true, true, true, true, false, true, false, false, false, false, false] rfl rfl (by kernel_rfl) (fun _ _ _ h => h) (Or.inl ⟨by rfl, ?_⟩) ?_ ?_
          rotate_left
          · intro w'
            go_simp
            with_reducible rfl
          rotate_left
          · simp only [Act.put, List.setIfInBounds_toArray, List.set_cons_zero, List.set_cons_succ, i64_w, i32_w]; rfl
          refine pure_ (i := 6) (N := (some 130)) (v := ?_) (a' := ?_) #[true, true, true, true, false, true, true, false, false, false, false] rfl rfl (by kernel_rfl) (fun _ _ _ h => h) (Or.inl ⟨by rfl, ?_⟩) ?_ ?_
          rotate_left
          · intro w'
            go_simp
            with_reducible rfl
          rotate_left
          · simp only [Act.put, List.setIfInBounds_toArray, List.set_cons_zero, List.set_cons_succ, i64_w, i32_w]; rfl
          refine take_ (i := 4) (N := (some 128)) (v := ?_) (a' := ?_) #[true, true, true, true, true, true, true, false, false, false, false] rfl rfl (by kernel_rfl) (fun _ _ _ h => h) (Or.inl ⟨by rfl, ?_⟩) hHeld ?_ ?_
          rotate_left
          · intro w' hSw
            (try dsimp only at hSw)
            go_simp
            with_reducible rfl
          rotate_left
          · simp only [Act.put, List.setIfInBounds_toArray, List.set_cons_zero, List.set_cons_succ, i64_w, i32_w]; rfl
          refine take_ (i := 7) (N := (some 131)) (v := ?_) (a' := ?_) #[true, true, true, true, true, true, true, true, false, false, false] rfl rfl (by kernel_rfl) (fun _ _ _ h => h) (Or.inl ⟨by rfl, ?_⟩) hHeld ?_ ?_
          rotate_left
          · intro w' hSw
            (try dsimp only at hSw)
            go_simp
            with_reducible rfl
          rotate_left
          · simp only [Act.put, List.setIfInBounds_toArray, List.set_cons_zero, List.set_cons_succ, i64_w, i32_w]; rfl
          refine one_ (i := 8) (N := (some 132)) #[true, true, true, true, true, true, true, true, true, false, false] rfl rfl (by kernel_rfl) (by decide) (fun K hK => ?_)
          refine goes_ Try.func100 (by kernel_rfl) rfl #[.slice Ae 12 ce, .int .i64 t2, .int .i64 t0] (by rfl) rfl rfl (by (try simp only [List.map_toArray, List.map_cons, List.map_nil]); first | done | rfl) ?_
          refine (HF.out _ d_B).mono ?_
          rintro E0_ v6 ⟨rfl, hdr⟩
          have hb := hdr.below
          replace d_B := below_step d_B hb; replace d_G := BoxAt.below d_G hb; replace d_R := Kd.R_below d_R hb; replace d_T := Kd.R_below d_T hb
          clear hb hdr
          refine ⟨_, rfl, ?_⟩
          refine hK.out _ _ (HSX.out _ d_B) (fun hHeld => ?_)
          clear hK K
          refine norm_ (a' := ?_) ?_ ?_
          rotate_left
          · show Act.put _ (some 132) _ = _
            simp only [Act.put, List.setIfInBounds_toArray, List.set_cons_zero, List.set_cons_succ, i64_w, i32_w]
            rfl
          refine pure_ (i := 9) (N := (some 133)) (v := ?_) (a' := ?_) #[true, true, true, true, true, true, true, true, true, true, false] rfl rfl (by kernel_rfl) (fun _ _ _ h => h) (Or.inl ⟨by rfl, ?_⟩) ?_ ?_
          rotate_left
          · intro w'
            go_simp
            with_reducible rfl
          rotate_left
          · simp only [Act.put, List.setIfInBounds_toArray, List.set_cons_zero, List.set_cons_succ, i64_w, i32_w]; rfl
          refine pure_ (i := 10) (N := (some 15)) (v := ?_) (a' := ?_) #[true, true, true, true, true, true, true, true, true, true, true] rfl rfl (by kernel_rfl) (fun _ _ _ h => h) (Or.inl ⟨by rfl, ?_⟩) ?_ ?_
          rotate_left
          · intro w'
            go_simp
            with_reducible rfl
          rotate_left
          · simp only [Act.put, List.setIfInBounds_toArray, List.set_cons_zero, List.set_cons_succ, i64_w, i32_w]; rfl
          refine done_ (by kernel_rfl) ?_
          go_wp2_with fail
          have hb := (Below.drew (Below.refl v6.heap.size v6))
          replace d_B := below_step d_B hb; replace d_G := BoxAt.below d_G hb; replace d_R := Kd.R_below d_R hb; replace d_T := Kd.R_below d_T hb
          clear hb
          refine start_ (n := 28) (S := fun w' => w'.cell? ⟨h, 1, none⟩ = some vT ∧ w'.cell? adx = some (.int .i64 t0) ∧ w'.cell? ⟨adx.block, adx.off + 1, none⟩ = some (.int .i64 t1) ∧ w'.cell? ⟨adx.block, adx.off + 2, none⟩ = some (.int .i64 t2)) (ds := [27]) #[false, false, false, false, false, false, false, false, false, false, false, false, false, false, false, false, false, false, false, false, false, false, false, false, false, false, false, false] (by kernel_rfl) rfl rfl ⟨BoxAt.c1 d_G, (HSX.out _ d_B)⟩ (fun hHeld => ?_)
          generalize v6.drew = v7 at d_B d_G d_R d_T hHeld ⊢
          refine pure_ (i := 0) (N := (some 134)) (v := ?_) (a' := ?_) #[true, false, false, false, false, false, false, false, false, false, false, false, false, false, false, false, false, false, false, false, false, false, false, false, false, false, false, false] rfl rfl (by kernel_rfl) (fun _ _ _ h => h) (Or.inl ⟨by rfl, ?_⟩) ?_ ?_
          rotate_left
          · intro w'
            go_simp
            with_reducible rfl
          rotate_left
          · simp only [Act.put, List.setIfInBounds_toArray, List.set_cons_zero, List.set_cons_succ, i64_w, i32_w]; rfl
          refine pure_ (i := 2) (N := (some 136)) (v := ?_) (a' := ?_) #[true, false, true, false, false, false, false, false, false, false, false, false, false, false, false, false, false, false, false, false, false, false, false, false, false, false, false, false] rfl rfl (by kernel_rfl) (fun _ _ _ h => h) (Or.inl ⟨by rfl, ?_⟩) ?_ ?_
          rotate_left
          · intro w'
            go_simp
            with_reducible rfl
          rotate_left
          · simp only [Act.put, List.setIfInBounds_toArray, List.set_cons_zero, List.set_cons_succ, i64_w, i32_w]; rfl
          refine pure_ (i := 3) (N := (some 137)) (v := ?_) (a' := ?_) #[true, false, true, true, false, false, false, false, false, false, false, false, false, false, false, false, false, false, false, false, false, false, false, false, false, false, false, false] rfl rfl (by kernel_rfl) (fun _ _ _ h => h) (Or.inl ⟨by rfl, ?_⟩) ?_ ?_
          rotate_left
          · intro w'
            go_simp
            with_reducible rfl
          rotate_left
          · simp only [Act.put, List.setIfInBounds_toArray, List.set_cons_zero, List.set_cons_succ, i64_w, i32_w]; rfl
          refine pure_ (i := 5) (N := (some 139)) (v := ?_) (a' := ?_) #[true, false, true, true, false, true, false, false, false, false, false, false, false, false, false, false, false, false, false, false, false, false, false, false, false, false, false, false] rfl rfl (by kernel_rfl) (fun _ _ _ h => h) (Or.inl ⟨by rfl, ?_⟩) ?_ ?_
          rotate_left
          · intro w'
            go_simp
            with_reducible rfl
          rotate_left
          · simp only [Act.put, List.setIfInBounds_toArray, List.set_cons_zero, List.set_cons_succ, i64_w, i32_w]; rfl
          refine pure_ (i := 6) (N := (some 140)) (v := ?_) (a' := ?_) #[true, false, true, true, false, true, true, false, false, false, false, false, false, false, false, false, false, false, false, false, false, false, false, false, false, false, false, false] rfl rfl (by kernel_rfl) (fun _ _ _ h => h) (Or.inl ⟨by rfl, ?_⟩) ?_ ?_
          rotate_left
          · intro w'
            go_simp
            with_reducible rfl
          rotate_left
          · simp only [Act.put, List.setIfInBounds_toArray, List.set_cons_zero, List.set_cons_succ, i64_w, i32_w]; rfl
          refine pure_ (i := 8) (N := (some 142)) (v := ?_) (a' := ?_) #[true, false, true, true, false, true, true, false, true, false, false, false, false, false, false, false, false, false, false, false, false, false, false, false, false, false, false, false] rfl rfl (by kernel_rfl) (fun _ _ _ h => h) (Or.inl ⟨by rfl, ?_⟩) ?_ ?_
          rotate_left
          · intro w'
            go_simp
            with_reducible rfl
          rotate_left
          · simp only [Act.put, List.setIfInBounds_toArray, List.set_cons_zero, List.set_cons_succ, i64_w, i32_w]; rfl
          refine pure_ (i := 9) (N := (some 143)) (v := ?_) (a' := ?_) #[true, false, true, true, false, true, true, false, true, true, false, false, false, false, false, false, false, false, false, false, false, false, false, false, false, false, false, false] rfl rfl (by kernel_rfl) (fun _ _ _ h => h) (Or.inl ⟨by rfl, ?_⟩) ?_ ?_
          rotate_left
          · intro w'
            go_simp
            with_reducible rfl
          rotate_left
          · simp only [Act.put, List.setIfInBounds_toArray, List.set_cons_zero, List.set_cons_succ, i64_w, i32_w]; rfl
          refine pure_ (i := 10) (N := (some 144)) (v := ?_) (a' := ?_) #[true, false, true, true, false, true, true, false, true, true, true, false, false, false, false, false, false, false, false, false, false, false, false, false, false, false, false, false] rfl rfl (by kernel_rfl) (fun _ _ _ h => h) (Or.inl ⟨by rfl, ?_⟩) ?_ ?_
          rotate_left
          · intro w'
            go_simp
            with_reducible rfl
          rotate_left
          · simp only [Act.put, List.setIfInBounds_toArray, List.set_cons_zero, List.set_cons_succ, i64_w, i32_w]; rfl
          refine pure_ (i := 12) (N := (some 146)) (v := ?_) (a' := ?_) #[true, false, true, true, false, true, true, false, true, true, true, false, true, false, false, false, false, false, false, false, false, false, false, false, false, false, false, false] rfl rfl (by kernel_rfl) (fun _ _ _ h => h) (Or.inl ⟨by rfl, ?_⟩) ?_ ?_
          rotate_left
          · intro w'
            go_simp
            with_reducible rfl
          rotate_left
          · simp only [Act.put, List.setIfInBounds_toArray, List.set_cons_zero, List.set_cons_succ, i64_w, i32_w]; rfl
          refine pure_ (i := 14) (N := (some 148)) (v := ?_) (a' := ?_) #[true, false, true, true, false, true, true, false, true, true, true, false, true, false, true, false, false, false, false, false, false, false, false, false, false, false, false, false] rfl rfl (by kernel_rfl) (fun _ _ _ h => h) (Or.inl ⟨by rfl, ?_⟩) ?_ ?_
          rotate_left
          · intro w'
            go_simp
            with_reducible rfl
          rotate_left
          · simp only [Act.put, List.setIfInBounds_toArray, List.set_cons_zero, List.set_cons_succ, i64_w, i32_w]; rfl
          refine pure_ (i := 15) (N := (some 149)) (v := ?_) (a' := ?_) #[true, false, true, true, false, true, true, false, true, true, true, false, true, false, true, true, false, false, false, false, false, false, false, false, false, false, false, false] rfl rfl (by kernel_rfl) (fun _ _ _ h => h) (Or.inl ⟨by rfl, ?_⟩) ?_ ?_
          rotate_left
          · intro w'
            go_simp
            with_reducible rfl
          rotate_left
          · simp only [Act.put, List.setIfInBounds_toArray, List.set_cons_zero, List.set_cons_succ, i64_w, i32_w]; rfl
          refine pure_ (i := 16) (N := (some 150)) (v := ?_) (a' := ?_) #[true, false, true, true, false, true, true, false, true, true, true, false, true, false, true, true, true, false, false, false, false, false, false, false, false, false, false, false] rfl rfl (by kernel_rfl) (fun _ _ _ h => h) (Or.inl ⟨by rfl, ?_⟩) ?_ ?_
          rotate_left
          · intro w'
            go_simp
            with_reducible rfl
          rotate_left
          · simp only [Act.put, List.setIfInBounds_toArray, List.set_cons_zero, List.set_cons_succ, i64_w, i32_w]; rfl
          refine pure_ (i := 17) (N := (some 151)) (v := ?_) (a' := ?_) #[true, false, true, true, false, true, true, false, true, true, true, false, true, false, true, true, true, true, false, false, false, false, false, false, false, false, false, false] rfl rfl (by kernel_rfl) (fun _ _ _ h => h) (Or.inl ⟨by rfl, ?_⟩) ?_ ?_
          rotate_left
          · intro w'
            go_simp
            with_reducible rfl
          rotate_left
          · simp only [Act.put, List.setIfInBounds_toArray, List.set_cons_zero, List.set_cons_succ, i64_w, i32_w]; rfl
          refine pure_ (i := 20) (N := (some 154)) (v := ?_) (a' := ?_) #[true, false, true, true, false, true, true, false, true, true, true, false, true, false, true, true, true, true, false, false, true, false, false, false, false, false, false, false] rfl rfl (by kernel_rfl) (fun _ _ _ h => h) (Or.inl ⟨by rfl, ?_⟩) ?_ ?_
          rotate_left
          · intro w'
            go_simp
            with_reducible rfl
          rotate_left
          · simp only [Act.put, List.setIfInBounds_toArray, List.set_cons_zero, List.set_cons_succ, i64_w, i32_w]; rfl
          refine pure_ (i := 21) (N := (some 155)) (v := ?_) (a' := ?_) #[true, false, true, true, false, true, true, false, true, true, true, false, true, false, true, true, true, true, false, false, true, true, false, false, false, false, false, false] rfl rfl (by kernel_rfl) (fun _ _ _ h => h) (Or.inl ⟨by rfl, ?_⟩) ?_ ?_
          rotate_left
          · intro w'
            go_simp
            with_reducible rfl
          rotate_left
          · simp only [Act.put, List.setIfInBounds_toArray, List.set_cons_zero, List.set_cons_succ, i64_w, i32_w]; rfl
          refine pure_ (i := 22) (N := (some 156)) (v := ?_) (a' := ?_) #[true, false, true, true, false, true, true, false, true, true, true, false, true, false, true, true, true, true, false, false, true, true, true, false, false, false, false, false] rfl rfl (by kernel_rfl) (fun _ _ _ h => h) (Or.inl ⟨by rfl, ?_⟩) ?_ ?_
          rotate_left
          · intro w'
            go_simp
            with_reducible rfl
          rotate_left
          · simp only [Act.put, List.setIfInBounds_toArray, List.set_cons_zero, List.set_cons_succ, i64_w, i32_w]; rfl
          refine take_ (i := 1) (N := (some 135)) (v := ?_) (a' := ?_) #[true, true, true, true, false, true, true, false, true, true, true, false, true, false, true, true, true, true, false, false, true, true, true, false, false, false, false, false] rfl rfl (by kernel_rfl) (fun _ _ _ h => h) (Or.inl ⟨by rfl, ?_⟩) hHeld ?_ ?_
          rotate_left
          · intro w' hSw
            (try dsimp only at hSw)
            go_simp
            with_reducible rfl
          rotate_left
          · simp only [Act.put, List.setIfInBounds_toArray, List.set_cons_zero, List.set_cons_succ, i64_w, i32_w]; rfl
          refine take_ (i := 4) (N := (some 138)) (v := ?_) (a' := ?_) #[true, true, true, true, true, true, true, false, true, true, true, false, true, false, true, true, true, true, false, false, true, true, true, false, false, false, false, false] rfl rfl (by kernel_rfl) (fun _ _ _ h => h) (Or.inl ⟨by rfl, ?_⟩) hHeld ?_ ?_
          rotate_left
          · intro w' hSw
            (try dsimp only at hSw)
            go_simp
            with_reducible rfl
          rotate_left
          · simp only [Act.put, List.setIfInBounds_toArray, List.set_cons_zero, List.set_cons_succ, i64_w, i32_w]; rfl
          refine take_ (i := 11) (N := (some 145)) (v := ?_) (a' := ?_) #[true, true, true, true, true, true, true, false, true, true, true, true, true, false, true, true, true, true, false, false, true, true, true, false, false, false, false, false] rfl rfl (by kernel_rfl) (fun _ _ _ h => h) (Or.inl ⟨by rfl, ?_⟩) hHeld ?_ ?_
          rotate_left
          · intro w' hSw
            (try dsimp only at hSw)
            go_simp
            with_reducible rfl
          rotate_left
          · simp only [Act.put, List.setIfInBounds_toArray, List.set_cons_zero, List.set_cons_succ, i64_w, i32_w]; rfl
          refine take_ (i := 18) (N := (some 152)) (v := ?_) (a' := ?_) #[true, true, true, true, true, true, true, false, true, true, true, true, true, false, true, true, true, true, true, false, true, true, true, false, false, false, false, false] rfl rfl (by kernel_rfl) (fun _ _ _ h => h) (Or.inl ⟨by rfl, ?_⟩) hHeld ?_ ?_
          rotate_left
          · intro w' hSw
            (try dsimp only at hSw)
            go_simp
            with_reducible rfl
          rotate_left
          · simp only [Act.put, List.setIfInBounds_toArray, List.set_cons_zero, List.set_cons_succ, i64_w, i32_w]; rfl
          refine join_ (σ := Option Addr × Nat × Option Addr × Nat × Option Addr × Nat × Option Addr × Nat) 4 #[true, true, true, true, true, true, true, true, true, true, true, true, true, true, true, true, true, true, true, true, true, true, true, true, false, false, false, false] (fun s_ => [(141, .slice s_.1 3 s_.2.1), (147, .slice s_.2.2.1 3 s_.2.2.2.1), (153, .slice s_.2.2.2.2.1 3 s_.2.2.2.2.2.1), (157, .slice s_.2.2.2.2.2.2.1 3 s_.2.2.2.2.2.2.2)]) (fun s_ w' => (Below u.heap.size u w') ∧ (BoxAt w' h 30 vq vT) ∧ (Kd.R k59 59 w' u.heap.size (fun _ => True) vq ballP) ∧ (Kd.R (Kd.slice 2 (Kd.int .i64)) 34 w' u.heap.size (fun _ => True) vT (fT i)) ∧ (Kd.R (Kd.int .i64) 2 w' u.heap.size (fun _ => True) (.slice s_.1 3 s_.2.1) [t0, D, F']) ∧ (Kd.R (Kd.int .i64) 2 w' u.heap.size (fun _ => True) (.slice s_.2.2.1 3 s_.2.2.2.1) [D, t1, E']) ∧ (Kd.R (Kd.int .i64) 2 w' u.heap.size (fun _ => True) (.slice s_.2.2.2.2.1 3 s_.2.2.2.2.2.1) [F', E', t2]) ∧ (Kd.R (Kd.int .i64) 2 w' u.heap.size (fun _ => True) (.slice s_.2.2.2.2.2.2.1 3 s_.2.2.2.2.2.2.2) [D, E', F'])) ?_ ?_
          rotate_left
          · intro hN_l7_l13_l19_l23
            refine join_ (σ := Option Addr × Nat × Option Addr × Nat × Option Addr × Nat) 5 #[true, true, true, true, true, true, true, true, true, true, true, true, true, true, true, true, true, true, true, true, true, true, true, false, false, false, false, false] (fun s_ => [(141, .slice s_.1 3 s_.2.1), (147, .slice s_.2.2.1 3 s_.2.2.2.1), (153, .slice s_.2.2.2.2.1 3 s_.2.2.2.2.2)]) (fun s_ w' => (Below u.heap.size u w') ∧ (BoxAt w' h 30 vq vT) ∧ (Kd.R k59 59 w' u.heap.size (fun _ => True) vq ballP) ∧ (Kd.R (Kd.slice 2 (Kd.int .i64)) 34 w' u.heap.size (fun _ => True) vT (fT i)) ∧ (Kd.R (Kd.int .i64) 2 w' u.heap.size (fun _ => True) (.slice s_.1 3 s_.2.1) [t0, D, F']) ∧ (Kd.R (Kd.int .i64) 2 w' u.heap.size (fun _ => True) (.slice s_.2.2.1 3 s_.2.2.2.1) [D, t1, E']) ∧ (Kd.R (Kd.int .i64) 2 w' u.heap.size (fun _ => True) (.slice s_.2.2.2.2.1 3 s_.2.2.2.2.2) [F', E', t2])) ?_ ?_
            · skip
              rintro ⟨A7, c7, A13, c13, A19, c19⟩ wn ⟨f_B, f_G, f_R, f_T, f_L7, f_L13, f_L19⟩
              replace f_B : Below u.heap.size u wn := f_B
              replace f_G : BoxAt wn h 30 vq vT := f_G
              replace f_R : Kd.R k59 59 wn u.heap.size (fun _ => True) vq ballP := f_R
              replace f_T : Kd.R (Kd.slice 2 (Kd.int .i64)) 34 wn u.heap.size (fun _ => True) vT (fT i) := f_T
              replace f_L7 : Kd.R (Kd.int .i64) 2 wn u.heap.size (fun _ => True) (.slice A7 3 c7) [t0, D, F'] := f_L7
              replace f_L13 : Kd.R (Kd.int .i64) 2 wn u.heap.size (fun _ => True) (.slice A13 3 c13) [D, t1, E'] := f_L13
              replace f_L19 : Kd.R (Kd.int .i64) 2 wn u.heap.size (fun _ => True) (.slice A19 3 c19) [F', E', t2] := f_L19
              refine norm_ (a' := ?_) ?_ ?_
              rotate_left
              · simp only [putAll, Act.put, List.setIfInBounds_toArray, List.set_cons_zero, List.set_cons_succ]; rfl
              refine one_ (i := 23) (N := (some 157)) #[true, true, true, true, true, true, true, true, true, true, true, true, true, true, true, true, true, true, true, true, true, true, true, true, false, false, false, false] rfl rfl (by kernel_rfl) (by decide) (fun K hK => ?_)
              refine Kd.R_lit_step (Kd.int .i64) _ 2 (by rfl) (N := 157) rfl (xs := ([D, E', F'] : List Int)) (inner := [.int .i64 D, .int .i64 E', .int .i64 F']) (ok := fun _ => True) (okp := fun _ => True) (by first | (go_simp; done) | (go_simp; rfl)) (Reps.one (show Kd.M (Kd.int .i64) _ _ _ (D) [.int .i64 (D)] from rfl) (Reps.one (show Kd.M (Kd.int .i64) _ _ _ (E') [.int .i64 (E')] from rfl) (Reps.one (show Kd.M (Kd.int .i64) _ _ _ (F') [.int .i64 (F')] from rfl) (Reps.none _ _)))) (fun _ hk => hk) trivial (Below.refl _ _) (Nat.le_refl _) (by simp) ?_
              intro va wz ho hb hg_ hn_
              obtain ⟨A23, c23, rfl⟩ : ∃ A c, va = .slice A 3 c := Kd.R_slice ho
              have m_L23 : Kd.R (Kd.int .i64) 2 wz u.heap.size (fun _ => True) (.slice A23 3 c23) [D, E', F'] := Kd.R_lower ho f_B.size
              clear ho hg_ hn_
              have m_B := below_step f_B hb
              have m_G := f_G.below hb
              have m_R := Kd.R_below f_R hb
              have m_T := Kd.R_below f_T hb
              have m_L7 := Kd.R_below f_L7 hb
              have m_L13 := Kd.R_below f_L13 hb
              have m_L19 := Kd.R_below f_L19 hb
              refine hK.out _ _ ⟨BoxAt.c1 m_G, (HSX.out _ m_B)⟩ (fun hHeld => ?_)
              clear hK K
              refine norm_ (a' := ?_) ?_ ?_
              rotate_left
              · show Act.put _ (some 157) _ = _
                simp only [Act.put, List.setIfInBounds_toArray, List.set_cons_zero, List.set_cons_succ, i64_w, i32_w]
                rfl
              exact norm_ (by simp only [putAll, Act.put, List.setIfInBounds_toArray, List.set_cons_zero, List.set_cons_succ]) (hN_l7_l13_l19_l23 (A7, c7, A13, c13, A19, c19, A23, c23) _ ⟨m_B, m_G, m_R, m_T, m_L7, m_L13, m_L19, m_L23⟩)
            intro hN_l7_l13_l19
            refine join_ (σ := Option Addr × Nat × Option Addr × Nat × Option Addr × Nat) 5 #[true, true, true, true, true, true, true, true, true, true, true, true, true, true, true, true, true, true, true, false, true, true, true, true, false, false, false, false] (fun s_ => [(141, .slice s_.1 3 s_.2.1), (147, .slice s_.2.2.1 3 s_.2.2.2.1), (157, .slice s_.2.2.2.2.1 3 s_.2.2.2.2.2)]) (fun s_ w' => (Below u.heap.size u w') ∧ (BoxAt w' h 30 vq vT) ∧ (Kd.R k59 59 w' u.heap.size (fun _ => True) vq ballP) ∧ (Kd.R (Kd.slice 2 (Kd.int .i64)) 34 w' u.heap.size (fun _ => True) vT (fT i)) ∧ (Kd.R (Kd.int .i64) 2 w' u.heap.size (fun _ => True) (.slice s_.1 3 s_.2.1) [t0, D, F']) ∧ (Kd.R (Kd.int .i64) 2 w' u.heap.size (fun _ => True) (.slice s_.2.2.1 3 s_.2.2.2.1) [D, t1, E']) ∧ (Kd.R (Kd.int .i64) 2 w' u.heap.size (fun _ => True) (.slice s_.2.2.2.2.1 3 s_.2.2.2.2.2) [D, E', F'])) ?_ ?_
            · skip
              rintro ⟨A7, c7, A13, c13, A23, c23⟩ wn ⟨f_B, f_G, f_R, f_T, f_L7, f_L13, f_L23⟩
              replace f_B : Below u.heap.size u wn := f_B
              replace f_G : BoxAt wn h 30 vq vT := f_G
              replace f_R : Kd.R k59 59 wn u.heap.size (fun _ => True) vq ballP := f_R
              replace f_T : Kd.R (Kd.slice 2 (Kd.int .i64)) 34 wn u.heap.size (fun _ => True) vT (fT i) := f_T
              replace f_L7 : Kd.R (Kd.int .i64) 2 wn u.heap.size (fun _ => True) (.slice A7 3 c7) [t0, D, F'] := f_L7
              replace f_L13 : Kd.R (Kd.int .i64) 2 wn u.heap.size (fun _ => True) (.slice A13 3 c13) [D, t1, E'] := f_L13
              replace f_L23 : Kd.R (Kd.int .i64) 2 wn u.heap.size (fun _ => True) (.slice A23 3 c23) [D, E', F'] := f_L23
              refine norm_ (a' := ?_) ?_ ?_
              rotate_left
              · simp only [putAll, Act.put, List.setIfInBounds_toArray, List.set_cons_zero, List.set_cons_succ]; rfl
              refine one_ (i := 19) (N := (some 153)) #[true, true, true, true, true, true, true, true, true, true, true, true, true, true, true, true, true, true, true, true, true, true, true, true, false, false, false, false] rfl rfl (by kernel_rfl) (by decide) (fun K hK => ?_)
              refine Kd.R_lit_step (Kd.int .i64) _ 2 (by rfl) (N := 153) rfl (xs := ([F', E', t2] : List Int)) (inner := [.int .i64 F', .int .i64 E', .int .i64 t2]) (ok := fun _ => True) (okp := fun _ => True) (by first | (go_simp; done) | (go_simp; rfl)) (Reps.one (show Kd.M (Kd.int .i64) _ _ _ (F') [.int .i64 (F')] from rfl) (Reps.one (show Kd.M (Kd.int .i64) _ _ _ (E') [.int .i64 (E')] from rfl) (Reps.one (show Kd.M (Kd.int .i64) _ _ _ (t2) [.int .i64 (t2)] from rfl) (Reps.none _ _)))) (fun _ hk => hk) trivial (Below.refl _ _) (Nat.le_refl _) (by simp) ?_
              intro va wz ho hb hg_ hn_
              obtain ⟨A19, c19, rfl⟩ : ∃ A c, va = .slice A 3 c := Kd.R_slice ho
              have m_L19 : Kd.R (Kd.int .i64) 2 wz u.heap.size (fun _ => True) (.slice A19 3 c19) [F', E', t2] := Kd.R_lower ho f_B.size
              clear ho hg_ hn_
              have m_B := below_step f_B hb
              have m_G := f_G.below hb
              have m_R := Kd.R_below f_R hb
              have m_T := Kd.R_below f_T hb
              have m_L7 := Kd.R_below f_L7 hb
              have m_L13 := Kd.R_below f_L13 hb
              have m_L23 := Kd.R_below f_L23 hb
              refine hK.out _ _ ⟨BoxAt.c1 m_G, (HSX.out _ m_B)⟩ (fun hHeld => ?_)
              clear hK K
              refine norm_ (a' := ?_) ?_ ?_
              rotate_left
              · show Act.put _ (some 153) _ = _
                simp only [Act.put, List.setIfInBounds_toArray, List.set_cons_zero, List.set_cons_succ, i64_w, i32_w]
                rfl
              exact norm_ (by simp only [putAll, Act.put, List.setIfInBounds_toArray, List.set_cons_zero, List.set_cons_succ]) (hN_l7_l13_l19_l23 (A7, c7, A13, c13, A19, c19, A23, c23) _ ⟨m_B, m_G, m_R, m_T, m_L7, m_L13, m_L19, m_L23⟩)
            intro hN_l7_l13_l23
            refine join_ (σ := Option Addr × Nat × Option Addr × Nat × Option Addr × Nat) 5 #[true, true, true, true, true, true, true, true, true, true, true, true, true, false, true, true, true, true, true, true, true, true, true, true, false, false, false, false] (fun s_ => [(141, .slice s_.1 3 s_.2.1), (153, .slice s_.2.2.1 3 s_.2.2.2.1), (157, .slice s_.2.2.2.2.1 3 s_.2.2.2.2.2)]) (fun s_ w' => (Below u.heap.size u w') ∧ (BoxAt w' h 30 vq vT) ∧ (Kd.R k59 59 w' u.heap.size (fun _ => True) vq ballP) ∧ (Kd.R (Kd.slice 2 (Kd.int .i64)) 34 w' u.heap.size (fun _ => True) vT (fT i)) ∧ (Kd.R (Kd.int .i64) 2 w' u.heap.size (fun _ => True) (.slice s_.1 3 s_.2.1) [t0, D, F']) ∧ (Kd.R (Kd.int .i64) 2 w' u.heap.size (fun _ => True) (.slice s_.2.2.1 3 s_.2.2.2.1) [F', E', t2]) ∧ (Kd.R (Kd.int .i64) 2 w' u.heap.size (fun _ => True) (.slice s_.2.2.2.2.1 3 s_.2.2.2.2.2) [D, E', F'])) ?_ ?_
            · skip
              rintro ⟨A7, c7, A19, c19, A23, c23⟩ wn ⟨f_B, f_G, f_R, f_T, f_L7, f_L19, f_L23⟩
              replace f_B : Below u.heap.size u wn := f_B
              replace f_G : BoxAt wn h 30 vq vT := f_G
              replace f_R : Kd.R k59 59 wn u.heap.size (fun _ => True) vq ballP := f_R
              replace f_T : Kd.R (Kd.slice 2 (Kd.int .i64)) 34 wn u.heap.size (fun _ => True) vT (fT i) := f_T
              replace f_L7 : Kd.R (Kd.int .i64) 2 wn u.heap.size (fun _ => True) (.slice A7 3 c7) [t0, D, F'] := f_L7
              replace f_L19 : Kd.R (Kd.int .i64) 2 wn u.heap.size (fun _ => True) (.slice A19 3 c19) [F', E', t2] := f_L19
              replace f_L23 : Kd.R (Kd.int .i64) 2 wn u.heap.size (fun _ => True) (.slice A23 3 c23) [D, E', F'] := f_L23
              refine norm_ (a' := ?_) ?_ ?_
              rotate_left
              · simp only [putAll, Act.put, List.setIfInBounds_toArray, List.set_cons_zero, List.set_cons_succ]; rfl
              refine one_ (i := 13) (N := (some 147)) #[true, true, true, true, true, true, true, true, true, true, true, true, true, true, true, true, true, true, true, true, true, true, true, true, false, false, false, false] rfl rfl (by kernel_rfl) (by decide) (fun K hK => ?_)
              refine Kd.R_lit_step (Kd.int .i64) _ 2 (by rfl) (N := 147) rfl (xs := ([D, t1, E'] : List Int)) (inner := [.int .i64 D, .int .i64 t1, .int .i64 E']) (ok := fun _ => True) (okp := fun _ => True) (by first | (go_simp; done) | (go_simp; rfl)) (Reps.one (show Kd.M (Kd.int .i64) _ _ _ (D) [.int .i64 (D)] from rfl) (Reps.one (show Kd.M (Kd.int .i64) _ _ _ (t1) [.int .i64 (t1)] from rfl) (Reps.one (show Kd.M (Kd.int .i64) _ _ _ (E') [.int .i64 (E')] from rfl) (Reps.none _ _)))) (fun _ hk => hk) trivial (Below.refl _ _) (Nat.le_refl _) (by simp) ?_
              intro va wz ho hb hg_ hn_
              obtain ⟨A13, c13, rfl⟩ : ∃ A c, va = .slice A 3 c := Kd.R_slice ho
              have m_L13 : Kd.R (Kd.int .i64) 2 wz u.heap.size (fun _ => True) (.slice A13 3 c13) [D, t1, E'] := Kd.R_lower ho f_B.size
              clear ho hg_ hn_
              have m_B := below_step f_B hb
              have m_G := f_G.below hb
              have m_R := Kd.R_below f_R hb
              have m_T := Kd.R_below f_T hb
              have m_L7 := Kd.R_below f_L7 hb
              have m_L19 := Kd.R_below f_L19 hb
              have m_L23 := Kd.R_below f_L23 hb
              refine hK.out _ _ ⟨BoxAt.c1 m_G, (HSX.out _ m_B)⟩ (fun hHeld => ?_)
              clear hK K
              refine norm_ (a' := ?_) ?_ ?_
              rotate_left
              · show Act.put _ (some 147) _ = _
                simp only [Act.put, List.setIfInBounds_toArray, List.set_cons_zero, List.set_cons_succ, i64_w, i32_w]
                rfl
              exact norm_ (by simp only [putAll, Act.put, List.setIfInBounds_toArray, List.set_cons_zero, List.set_cons_succ]) (hN_l7_l13_l19_l23 (A7, c7, A13, c13, A19, c19, A23, c23) _ ⟨m_B, m_G, m_R, m_T, m_L7, m_L13, m_L19, m_L23⟩)
            intro hN_l7_l19_l23
            refine join_ (σ := Option Addr × Nat × Option Addr × Nat × Option Addr × Nat) 5 #[true, true, true, true, true, true, true, false, true, true, true, true, true, true, true, true, true, true, true, true, true, true, true, true, false, false, false, false] (fun s_ => [(147, .slice s_.1 3 s_.2.1), (153, .slice s_.2.2.1 3 s_.2.2.2.1), (157, .slice s_.2.2.2.2.1 3 s_.2.2.2.2.2)]) (fun s_ w' => (Below u.heap.size u w') ∧ (BoxAt w' h 30 vq vT) ∧ (Kd.R k59 59 w' u.heap.size (fun _ => True) vq ballP) ∧ (Kd.R (Kd.slice 2 (Kd.int .i64)) 34 w' u.heap.size (fun _ => True) vT (fT i)) ∧ (Kd.R (Kd.int .i64) 2 w' u.heap.size (fun _ => True) (.slice s_.1 3 s_.2.1) [D, t1, E']) ∧ (Kd.R (Kd.int .i64) 2 w' u.heap.size (fun _ => True) (.slice s_.2.2.1 3 s_.2.2.2.1) [F', E', t2]) ∧ (Kd.R (Kd.int .i64) 2 w' u.heap.size (fun _ => True) (.slice s_.2.2.2.2.1 3 s_.2.2.2.2.2) [D, E', F'])) ?_ ?_
            · skip
              rintro ⟨A13, c13, A19, c19, A23, c23⟩ wn ⟨f_B, f_G, f_R, f_T, f_L13, f_L19, f_L23⟩
              replace f_B : Below u.heap.size u wn := f_B
              replace f_G : BoxAt wn h 30 vq vT := f_G
              replace f_R : Kd.R k59 59 wn u.heap.size (fun _ => True) vq ballP := f_R
              replace f_T : Kd.R (Kd.slice 2 (Kd.int .i64)) 34 wn u.heap.size (fun _ => True) vT (fT i) := f_T
              replace f_L13 : Kd.R (Kd.int .i64) 2 wn u.heap.size (fun _ => True) (.slice A13 3 c13) [D, t1, E'] := f_L13
              replace f_L19 : Kd.R (Kd.int .i64) 2 wn u.heap.size (fun _ => True) (.slice A19 3 c19) [F', E', t2] := f_L19
              replace f_L23 : Kd.R (Kd.int .i64) 2 wn u.heap.size (fun _ => True) (.slice A23 3 c23) [D, E', F'] := f_L23
              refine norm_ (a' := ?_) ?_ ?_
              rotate_left
              · simp only [putAll, Act.put, List.setIfInBounds_toArray, List.set_cons_zero, List.set_cons_succ]; rfl
              refine one_ (i := 7) (N := (some 141)) #[true, true, true, true, true, true, true, true, true, true, true, true, true, true, true, true, true, true, true, true, true, true, true, true, false, false, false, false] rfl rfl (by kernel_rfl) (by decide) (fun K hK => ?_)
              refine Kd.R_lit_step (Kd.int .i64) _ 2 (by rfl) (N := 141) rfl (xs := ([t0, D, F'] : List Int)) (inner := [.int .i64 t0, .int .i64 D, .int .i64 F']) (ok := fun _ => True) (okp := fun _ => True) (by first | (go_simp; done) | (go_simp; rfl)) (Reps.one (show Kd.M (Kd.int .i64) _ _ _ (t0) [.int .i64 (t0)] from rfl) (Reps.one (show Kd.M (Kd.int .i64) _ _ _ (D) [.int .i64 (D)] from rfl) (Reps.one (show Kd.M (Kd.int .i64) _ _ _ (F') [.int .i64 (F')] from rfl) (Reps.none _ _)))) (fun _ hk => hk) trivial (Below.refl _ _) (Nat.le_refl _) (by simp) ?_
              intro va wz ho hb hg_ hn_
              obtain ⟨A7, c7, rfl⟩ : ∃ A c, va = .slice A 3 c := Kd.R_slice ho
              have m_L7 : Kd.R (Kd.int .i64) 2 wz u.heap.size (fun _ => True) (.slice A7 3 c7) [t0, D, F'] := Kd.R_lower ho f_B.size
              clear ho hg_ hn_
              have m_B := below_step f_B hb
              have m_G := f_G.below hb
              have m_R := Kd.R_below f_R hb
              have m_T := Kd.R_below f_T hb
              have m_L13 := Kd.R_below f_L13 hb
              have m_L19 := Kd.R_below f_L19 hb
              have m_L23 := Kd.R_below f_L23 hb
              refine hK.out _ _ ⟨BoxAt.c1 m_G, (HSX.out _ m_B)⟩ (fun hHeld => ?_)
              clear hK K
              refine norm_ (a' := ?_) ?_ ?_
              rotate_left
              · show Act.put _ (some 141) _ = _
                simp only [Act.put, List.setIfInBounds_toArray, List.set_cons_zero, List.set_cons_succ, i64_w, i32_w]
                rfl
              exact norm_ (by simp only [putAll, Act.put, List.setIfInBounds_toArray, List.set_cons_zero, List.set_cons_succ]) (hN_l7_l13_l19_l23 (A7, c7, A13, c13, A19, c19, A23, c23) _ ⟨m_B, m_G, m_R, m_T, m_L7, m_L13, m_L19, m_L23⟩)
            intro hN_l13_l19_l23
            refine join_ (σ := Option Addr × Nat × Option Addr × Nat) 6 #[true, true, true, true, true, true, true, true, true, true, true, true, true, true, true, true, true, true, true, false, true, true, true, false, false, false, false, false] (fun s_ => [(141, .slice s_.1 3 s_.2.1), (147, .slice s_.2.2.1 3 s_.2.2.2)]) (fun s_ w' => (Below u.heap.size u w') ∧ (BoxAt w' h 30 vq vT) ∧ (Kd.R k59 59 w' u.heap.size (fun _ => True) vq ballP) ∧ (Kd.R (Kd.slice 2 (Kd.int .i64)) 34 w' u.heap.size (fun _ => True) vT (fT i)) ∧ (Kd.R (Kd.int .i64) 2 w' u.heap.size (fun _ => True) (.slice s_.1 3 s_.2.1) [t0, D, F']) ∧ (Kd.R (Kd.int .i64) 2 w' u.heap.size (fun _ => True) (.slice s_.2.2.1 3 s_.2.2.2) [D, t1, E'])) ?_ ?_
            · skip
              rintro ⟨A7, c7, A13, c13⟩ wn ⟨f_B, f_G, f_R, f_T, f_L7, f_L13⟩
              replace f_B : Below u.heap.size u wn := f_B
              replace f_G : BoxAt wn h 30 vq vT := f_G
              replace f_R : Kd.R k59 59 wn u.heap.size (fun _ => True) vq ballP := f_R
              replace f_T : Kd.R (Kd.slice 2 (Kd.int .i64)) 34 wn u.heap.size (fun _ => True) vT (fT i) := f_T
              replace f_L7 : Kd.R (Kd.int .i64) 2 wn u.heap.size (fun _ => True) (.slice A7 3 c7) [t0, D, F'] := f_L7
              replace f_L13 : Kd.R (Kd.int .i64) 2 wn u.heap.size (fun _ => True) (.slice A13 3 c13) [D, t1, E'] := f_L13
              refine norm_ (a' := ?_) ?_ ?_
              rotate_left
              · simp only [putAll, Act.put, List.setIfInBounds_toArray, List.set_cons_zero, List.set_cons_succ]; rfl
              refine two_ (i := 19) (j := 23) (Ni := (some 153)) (Nj := (some 157)) #[true, true, true, true, true, true, true, true, true, true, true, true, true, true, true, true, true, true, true, true, true, true, true, false, false, false, false, false] #[true, true, true, true, true, true, true, true, true, true, true, true, true, true, true, true, true, true, true, false, true, true, true, true, false, false, false, false] rfl rfl rfl rfl (by kernel_rfl) (by decide) (by decide) (fun K hK => ?_) (fun K hK => ?_) 
              · skip
                refine Kd.R_lit_step (Kd.int .i64) _ 2 (by rfl) (N := 153) rfl (xs := ([F', E', t2] : List Int)) (inner := [.int .i64 F', .int .i64 E', .int .i64 t2]) (ok := fun _ => True) (okp := fun _ => True) (by first | (go_simp; done) | (go_simp; rfl)) (Reps.one (show Kd.M (Kd.int .i64) _ _ _ (F') [.int .i64 (F')] from rfl) (Reps.one (show Kd.M (Kd.int .i64) _ _ _ (E') [.int .i64 (E')] from rfl) (Reps.one (show Kd.M (Kd.int .i64) _ _ _ (t2) [.int .i64 (t2)] from rfl) (Reps.none _ _)))) (fun _ hk => hk) trivial (Below.refl _ _) (Nat.le_refl _) (by simp) ?_
                intro va wz ho hb hg_ hn_
                obtain ⟨A19, c19, rfl⟩ : ∃ A c, va = .slice A 3 c := Kd.R_slice ho
                have m_L19 : Kd.R (Kd.int .i64) 2 wz u.heap.size (fun _ => True) (.slice A19 3 c19) [F', E', t2] := Kd.R_lower ho f_B.size
                clear ho hg_ hn_
                have m_B := below_step f_B hb
                have m_G := f_G.below hb
                have m_R := Kd.R_below f_R hb
                have m_T := Kd.R_below f_T hb
                have m_L7 := Kd.R_below f_L7 hb
                have m_L13 := Kd.R_below f_L13 hb
                refine hK.out _ _ ⟨BoxAt.c1 m_G, (HSX.out _ m_B)⟩ (fun hHeld => ?_)
                clear hK K
                refine norm_ (a' := ?_) ?_ ?_
                rotate_left
                · show Act.put _ (some 153) _ = _
                  simp only [Act.put, List.setIfInBounds_toArray, List.set_cons_zero, List.set_cons_succ, i64_w, i32_w]
                  rfl
                exact norm_ (by simp only [putAll, Act.put, List.setIfInBounds_toArray, List.set_cons_zero, List.set_cons_succ]) (hN_l7_l13_l19 (A7, c7, A13, c13, A19, c19) _ ⟨m_B, m_G, m_R, m_T, m_L7, m_L13, m_L19⟩)
              · skip
                refine Kd.R_lit_step (Kd.int .i64) _ 2 (by rfl) (N := 157) rfl (xs := ([D, E', F'] : List Int)) (inner := [.int .i64 D, .int .i64 E', .int .i64 F']) (ok := fun _ => True) (okp := fun _ => True) (by first | (go_simp; done) | (go_simp; rfl)) (Reps.one (show Kd.M (Kd.int .i64) _ _ _ (D) [.int .i64 (D)] from rfl) (Reps.one (show Kd.M (Kd.int .i64) _ _ _ (E') [.int .i64 (E')] from rfl) (Reps.one (show Kd.M (Kd.int .i64) _ _ _ (F') [.int .i64 (F')] from rfl) (Reps.none _ _)))) (fun _ hk => hk) trivial (Below.refl _ _) (Nat.le_refl _) (by simp) ?_
                intro va wz ho hb hg_ hn_
                obtain ⟨A23, c23, rfl⟩ : ∃ A c, va = .slice A 3 c := Kd.R_slice ho
                have m_L23 : Kd.R (Kd.int .i64) 2 wz u.heap.size (fun _ => True) (.slice A23 3 c23) [D, E', F'] := Kd.R_lower ho f_B.size
                clear ho hg_ hn_
                have m_B := below_step f_B hb
                have m_G := f_G.below hb
                have m_R := Kd.R_below f_R hb
                have m_T := Kd.R_below f_T hb
                have m_L7 := Kd.R_below f_L7 hb
                have m_L13 := Kd.R_below f_L13 hb
                refine hK.out _ _ ⟨BoxAt.c1 m_G, (HSX.out _ m_B)⟩ (fun hHeld => ?_)
                clear hK K
                refine norm_ (a' := ?_) ?_ ?_
                rotate_left
                · show Act.put _ (some 157) _ = _
                  simp only [Act.put, List.setIfInBounds_toArray, List.set_cons_zero, List.set_cons_succ, i64_w, i32_w]
                  rfl
                exact norm_ (by simp only [putAll, Act.put, List.setIfInBounds_toArray, List.set_cons_zero, List.set_cons_succ]) (hN_l7_l13_l23 (A7, c7, A13, c13, A23, c23) _ ⟨m_B, m_G, m_R, m_T, m_L7, m_L13, m_L23⟩)
            intro hN_l7_l13
            refine join_ (σ := Option Addr × Nat × Option Addr × Nat) 6 #[true, true, true, true, true, true, true, true, true, true, true, true, true, false, true, true, true, true, true, true, true, true, true, false, false, false, false, false] (fun s_ => [(141, .slice s_.1 3 s_.2.1), (153, .slice s_.2.2.1 3 s_.2.2.2)]) (fun s_ w' => (Below u.heap.size u w') ∧ (BoxAt w' h 30 vq vT) ∧ (Kd.R k59 59 w' u.heap.size (fun _ => True) vq ballP) ∧ (Kd.R (Kd.slice 2 (Kd.int .i64)) 34 w' u.heap.size (fun _ => True) vT (fT i)) ∧ (Kd.R (Kd.int .i64) 2 w' u.heap.size (fun _ => True) (.slice s_.1 3 s_.2.1) [t0, D, F']) ∧ (Kd.R (Kd.int .i64) 2 w' u.heap.size (fun _ => True) (.slice s_.2.2.1 3 s_.2.2.2) [F', E', t2])) ?_ ?_
            · skip
              rintro ⟨A7, c7, A19, c19⟩ wn ⟨f_B, f_G, f_R, f_T, f_L7, f_L19⟩
              replace f_B : Below u.heap.size u wn := f_B
              replace f_G : BoxAt wn h 30 vq vT := f_G
              replace f_R : Kd.R k59 59 wn u.heap.size (fun _ => True) vq ballP := f_R
              replace f_T : Kd.R (Kd.slice 2 (Kd.int .i64)) 34 wn u.heap.size (fun _ => True) vT (fT i) := f_T
              replace f_L7 : Kd.R (Kd.int .i64) 2 wn u.heap.size (fun _ => True) (.slice A7 3 c7) [t0, D, F'] := f_L7
              replace f_L19 : Kd.R (Kd.int .i64) 2 wn u.heap.size (fun _ => True) (.slice A19 3 c19) [F', E', t2] := f_L19
              refine norm_ (a' := ?_) ?_ ?_
              rotate_left
              · simp only [putAll, Act.put, List.setIfInBounds_toArray, List.set_cons_zero, List.set_cons_succ]; rfl
              refine two_ (i := 13) (j := 23) (Ni := (some 147)) (Nj := (some 157)) #[true, true, true, true, true, true, true, true, true, true, true, true, true, true, true, true, true, true, true, true, true, true, true, false, false, false, false, false] #[true, true, true, true, true, true, true, true, true, true, true, true, true, false, true, true, true, true, true, true, true, true, true, true, false, false, false, false] rfl rfl rfl rfl (by kernel_rfl) (by decide) (by decide) (fun K hK => ?_) (fun K hK => ?_) 
              · skip
                refine Kd.R_lit_step (Kd.int .i64) _ 2 (by rfl) (N := 147) rfl (xs := ([D, t1, E'] : List Int)) (inner := [.int .i64 D, .int .i64 t1, .int .i64 E']) (ok := fun _ => True) (okp := fun _ => True) (by first | (go_simp; done) | (go_simp; rfl)) (Reps.one (show Kd.M (Kd.int .i64) _ _ _ (D) [.int .i64 (D)] from rfl) (Reps.one (show Kd.M (Kd.int .i64) _ _ _ (t1) [.int .i64 (t1)] from rfl) (Reps.one (show Kd.M (Kd.int .i64) _ _ _ (E') [.int .i64 (E')] from rfl) (Reps.none _ _)))) (fun _ hk => hk) trivial (Below.refl _ _) (Nat.le_refl _) (by simp) ?_
                intro va wz ho hb hg_ hn_
                obtain ⟨A13, c13, rfl⟩ : ∃ A c, va = .slice A 3 c := Kd.R_slice ho
                have m_L13 : Kd.R (Kd.int .i64) 2 wz u.heap.size (fun _ => True) (.slice A13 3 c13) [D, t1, E'] := Kd.R_lower ho f_B.size
                clear ho hg_ hn_
                have m_B := below_step f_B hb
                have m_G := f_G.below hb
                have m_R := Kd.R_below f_R hb
                have m_T := Kd.R_below f_T hb
                have m_L7 := Kd.R_below f_L7 hb
                have m_L19 := Kd.R_below f_L19 hb
                refine hK.out _ _ ⟨BoxAt.c1 m_G, (HSX.out _ m_B)⟩ (fun hHeld => ?_)
                clear hK K
                refine norm_ (a' := ?_) ?_ ?_
                rotate_left
                · show Act.put _ (some 147) _ = _
                  simp only [Act.put, List.setIfInBounds_toArray, List.set_cons_zero, List.set_cons_succ, i64_w, i32_w]
                  rfl
                exact norm_ (by simp only [putAll, Act.put, List.setIfInBounds_toArray, List.set_cons_zero, List.set_cons_succ]) (hN_l7_l13_l19 (A7, c7, A13, c13, A19, c19) _ ⟨m_B, m_G, m_R, m_T, m_L7, m_L13, m_L19⟩)
              · skip
                refine Kd.R_lit_step (Kd.int .i64) _ 2 (by rfl) (N := 157) rfl (xs := ([D, E', F'] : List Int)) (inner := [.int .i64 D, .int .i64 E', .int .i64 F']) (ok := fun _ => True) (okp := fun _ => True) (by first | (go_simp; done) | (go_simp; rfl)) (Reps.one (show Kd.M (Kd.int .i64) _ _ _ (D) [.int .i64 (D)] from rfl) (Reps.one (show Kd.M (Kd.int .i64) _ _ _ (E') [.int .i64 (E')] from rfl) (Reps.one (show Kd.M (Kd.int .i64) _ _ _ (F') [.int .i64 (F')] from rfl) (Reps.none _ _)))) (fun _ hk => hk) trivial (Below.refl _ _) (Nat.le_refl _) (by simp) ?_
                intro va wz ho hb hg_ hn_
                obtain ⟨A23, c23, rfl⟩ : ∃ A c, va = .slice A 3 c := Kd.R_slice ho
                have m_L23 : Kd.R (Kd.int .i64) 2 wz u.heap.size (fun _ => True) (.slice A23 3 c23) [D, E', F'] := Kd.R_lower ho f_B.size
                clear ho hg_ hn_
                have m_B := below_step f_B hb
                have m_G := f_G.below hb
                have m_R := Kd.R_below f_R hb
                have m_T := Kd.R_below f_T hb
                have m_L7 := Kd.R_below f_L7 hb
                have m_L19 := Kd.R_below f_L19 hb
                refine hK.out _ _ ⟨BoxAt.c1 m_G, (HSX.out _ m_B)⟩ (fun hHeld => ?_)
                clear hK K
                refine norm_ (a' := ?_) ?_ ?_
                rotate_left
                · show Act.put _ (some 157) _ = _
                  simp only [Act.put, List.setIfInBounds_toArray, List.set_cons_zero, List.set_cons_succ, i64_w, i32_w]
                  rfl
                exact norm_ (by simp only [putAll, Act.put, List.setIfInBounds_toArray, List.set_cons_zero, List.set_cons_succ]) (hN_l7_l19_l23 (A7, c7, A19, c19, A23, c23) _ ⟨m_B, m_G, m_R, m_T, m_L7, m_L19, m_L23⟩)
            intro hN_l7_l19
            refine join_ (σ := Option Addr × Nat × Option Addr × Nat) 6 #[true, true, true, true, true, true, true, true, true, true, true, true, true, false, true, true, true, true, true, false, true, true, true, true, false, false, false, false] (fun s_ => [(141, .slice s_.1 3 s_.2.1), (157, .slice s_.2.2.1 3 s_.2.2.2)]) (fun s_ w' => (Below u.heap.size u w') ∧ (BoxAt w' h 30 vq vT) ∧ (Kd.R k59 59 w' u.heap.size (fun _ => True) vq ballP) ∧ (Kd.R (Kd.slice 2 (Kd.int .i64)) 34 w' u.heap.size (fun _ => True) vT (fT i)) ∧ (Kd.R (Kd.int .i64) 2 w' u.heap.size (fun _ => True) (.slice s_.1 3 s_.2.1) [t0, D, F']) ∧ (Kd.R (Kd.int .i64) 2 w' u.heap.size (fun _ => True) (.slice s_.2.2.1 3 s_.2.2.2) [D, E', F'])) ?_ ?_
            · skip
              rintro ⟨A7, c7, A23, c23⟩ wn ⟨f_B, f_G, f_R, f_T, f_L7, f_L23⟩
              replace f_B : Below u.heap.size u wn := f_B
              replace f_G : BoxAt wn h 30 vq vT := f_G
              replace f_R : Kd.R k59 59 wn u.heap.size (fun _ => True) vq ballP := f_R
              replace f_T : Kd.R (Kd.slice 2 (Kd.int .i64)) 34 wn u.heap.size (fun _ => True) vT (fT i) := f_T
              replace f_L7 : Kd.R (Kd.int .i64) 2 wn u.heap.size (fun _ => True) (.slice A7 3 c7) [t0, D, F'] := f_L7
              replace f_L23 : Kd.R (Kd.int .i64) 2 wn u.heap.size (fun _ => True) (.slice A23 3 c23) [D, E', F'] := f_L23
              refine norm_ (a' := ?_) ?_ ?_
              rotate_left
              · simp only [putAll, Act.put, List.setIfInBounds_toArray, List.set_cons_zero, List.set_cons_succ]; rfl
              refine two_ (i := 13) (j := 19) (Ni := (some 147)) (Nj := (some 153)) #[true, true, true, true, true, true, true, true, true, true, true, true, true, true, true, true, true, true, true, false, true, true, true, true, false, false, false, false] #[true, true, true, true, true, true, true, true, true, true, true, true, true, false, true, true, true, true, true, true, true, true, true, true, false, false, false, false] rfl rfl rfl rfl (by kernel_rfl) (by decide) (by decide) (fun K hK => ?_) (fun K hK => ?_) 
              · skip
                refine Kd.R_lit_step (Kd.int .i64) _ 2 (by rfl) (N := 147) rfl (xs := ([D, t1, E'] : List Int)) (inner := [.int .i64 D, .int .i64 t1, .int .i64 E']) (ok := fun _ => True) (okp := fun _ => True) (by first | (go_simp; done) | (go_simp; rfl)) (Reps.one (show Kd.M (Kd.int .i64) _ _ _ (D) [.int .i64 (D)] from rfl) (Reps.one (show Kd.M (Kd.int .i64) _ _ _ (t1) [.int .i64 (t1)] from rfl) (Reps.one (show Kd.M (Kd.int .i64) _ _ _ (E') [.int .i64 (E')] from rfl) (Reps.none _ _)))) (fun _ hk => hk) trivial (Below.refl _ _) (Nat.le_refl _) (by simp) ?_
                intro va wz ho hb hg_ hn_
                obtain ⟨A13, c13, rfl⟩ : ∃ A c, va = .slice A 3 c := Kd.R_slice ho
                have m_L13 : Kd.R (Kd.int .i64) 2 wz u.heap.size (fun _ => True) (.slice A13 3 c13) [D, t1, E'] := Kd.R_lower ho f_B.size
                clear ho hg_ hn_
                have m_B := below_step f_B hb
                have m_G := f_G.below hb
                have m_R := Kd.R_below f_R hb
                have m_T := Kd.R_below f_T hb
                have m_L7 := Kd.R_below f_L7 hb
                have m_L23 := Kd.R_below f_L23 hb
                refine hK.out _ _ ⟨BoxAt.c1 m_G, (HSX.out _ m_B)⟩ (fun hHeld => ?_)
                clear hK K
                refine norm_ (a' := ?_) ?_ ?_
                rotate_left
                · show Act.put _ (some 147) _ = _
                  simp only [Act.put, List.setIfInBounds_toArray, List.set_cons_zero, List.set_cons_succ, i64_w, i32_w]
                  rfl
                exact norm_ (by simp only [putAll, Act.put, List.setIfInBounds_toArray, List.set_cons_zero, List.set_cons_succ]) (hN_l7_l13_l23 (A7, c7, A13, c13, A23, c23) _ ⟨m_B, m_G, m_R, m_T, m_L7, m_L13, m_L23⟩)
              · skip
                refine Kd.R_lit_step (Kd.int .i64) _ 2 (by rfl) (N := 153) rfl (xs := ([F', E', t2] : List Int)) (inner := [.int .i64 F', .int .i64 E', .int .i64 t2]) (ok := fun _ => True) (okp := fun _ => True) (by first | (go_simp; done) | (go_simp; rfl)) (Reps.one (show Kd.M (Kd.int .i64) _ _ _ (F') [.int .i64 (F')] from rfl) (Reps.one (show Kd.M (Kd.int .i64) _ _ _ (E') [.int .i64 (E')] from rfl) (Reps.one (show Kd.M (Kd.int .i64) _ _ _ (t2) [.int .i64 (t2)] from rfl) (Reps.none _ _)))) (fun _ hk => hk) trivial (Below.refl _ _) (Nat.le_refl _) (by simp) ?_
                intro va wz ho hb hg_ hn_
                obtain ⟨A19, c19, rfl⟩ : ∃ A c, va = .slice A 3 c := Kd.R_slice ho
                have m_L19 : Kd.R (Kd.int .i64) 2 wz u.heap.size (fun _ => True) (.slice A19 3 c19) [F', E', t2] := Kd.R_lower ho f_B.size
                clear ho hg_ hn_
                have m_B := below_step f_B hb
                have m_G := f_G.below hb
                have m_R := Kd.R_below f_R hb
                have m_T := Kd.R_below f_T hb
                have m_L7 := Kd.R_below f_L7 hb
                have m_L23 := Kd.R_below f_L23 hb
                refine hK.out _ _ ⟨BoxAt.c1 m_G, (HSX.out _ m_B)⟩ (fun hHeld => ?_)
                clear hK K
                refine norm_ (a' := ?_) ?_ ?_
                rotate_left
                · show Act.put _ (some 153) _ = _
                  simp only [Act.put, List.setIfInBounds_toArray, List.set_cons_zero, List.set_cons_succ, i64_w, i32_w]
                  rfl
                exact norm_ (by simp only [putAll, Act.put, List.setIfInBounds_toArray, List.set_cons_zero, List.set_cons_succ]) (hN_l7_l19_l23 (A7, c7, A19, c19, A23, c23) _ ⟨m_B, m_G, m_R, m_T, m_L7, m_L19, m_L23⟩)
            intro hN_l7_l23
            refine join_ (σ := Option Addr × Nat × Option Addr × Nat) 6 #[true, true, true, true, true, true, true, false, true, true, true, true, true, true, true, true, true, true, true, true, true, true, true, false, false, false, false, false] (fun s_ => [(147, .slice s_.1 3 s_.2.1), (153, .slice s_.2.2.1 3 s_.2.2.2)]) (fun s_ w' => (Below u.heap.size u w') ∧ (BoxAt w' h 30 vq vT) ∧ (Kd.R k59 59 w' u.heap.size (fun _ => True) vq ballP) ∧ (Kd.R (Kd.slice 2 (Kd.int .i64)) 34 w' u.heap.size (fun _ => True) vT (fT i)) ∧ (Kd.R (Kd.int .i64) 2 w' u.heap.size (fun _ => True) (.slice s_.1 3 s_.2.1) [D, t1, E']) ∧ (Kd.R (Kd.int .i64) 2 w' u.heap.size (fun _ => True) (.slice s_.2.2.1 3 s_.2.2.2) [F', E', t2])) ?_ ?_
            · skip
              rintro ⟨A13, c13, A19, c19⟩ wn ⟨f_B, f_G, f_R, f_T, f_L13, f_L19⟩
              replace f_B : Below u.heap.size u wn := f_B
              replace f_G : BoxAt wn h 30 vq vT := f_G
              replace f_R : Kd.R k59 59 wn u.heap.size (fun _ => True) vq ballP := f_R
              replace f_T : Kd.R (Kd.slice 2 (Kd.int .i64)) 34 wn u.heap.size (fun _ => True) vT (fT i) := f_T
              replace f_L13 : Kd.R (Kd.int .i64) 2 wn u.heap.size (fun _ => True) (.slice A13 3 c13) [D, t1, E'] := f_L13
              replace f_L19 : Kd.R (Kd.int .i64) 2 wn u.heap.size (fun _ => True) (.slice A19 3 c19) [F', E', t2] := f_L19
              refine norm_ (a' := ?_) ?_ ?_
              rotate_left
              · simp only [putAll, Act.put, List.setIfInBounds_toArray, List.set_cons_zero, List.set_cons_succ]; rfl
              refine two_ (i := 7) (j := 23) (Ni := (some 141)) (Nj := (some 157)) #[true, true, true, true, true, true, true, true, true, true, true, true, true, true, true, true, true, true, true, true, true, true, true, false, false, false, false, false] #[true, true, true, true, true, true, true, false, true, true, true, true, true, true, true, true, true, true, true, true, true, true, true, true, false, false, false, false] rfl rfl rfl rfl (by kernel_rfl) (by decide) (by decide) (fun K hK => ?_) (fun K hK => ?_) 
              · skip
                refine Kd.R_lit_step (Kd.int .i64) _ 2 (by rfl) (N := 141) rfl (xs := ([t0, D, F'] : List Int)) (inner := [.int .i64 t0, .int .i64 D, .int .i64 F']) (ok := fun _ => True) (okp := fun _ => True) (by first | (go_simp; done) | (go_simp; rfl)) (Reps.one (show Kd.M (Kd.int .i64) _ _ _ (t0) [.int .i64 (t0)] from rfl) (Reps.one (show Kd.M (Kd.int .i64) _ _ _ (D) [.int .i64 (D)] from rfl) (Reps.one (show Kd.M (Kd.int .i64) _ _ _ (F') [.int .i64 (F')] from rfl) (Reps.none _ _)))) (fun _ hk => hk) trivial (Below.refl _ _) (Nat.le_refl _) (by simp) ?_
                intro va wz ho hb hg_ hn_
                obtain ⟨A7, c7, rfl⟩ : ∃ A c, va = .slice A 3 c := Kd.R_slice ho
                have m_L7 : Kd.R (Kd.int .i64) 2 wz u.heap.size (fun _ => True) (.slice A7 3 c7) [t0, D, F'] := Kd.R_lower ho f_B.size
                clear ho hg_ hn_
                have m_B := below_step f_B hb
                have m_G := f_G.below hb
                have m_R := Kd.R_below f_R hb
                have m_T := Kd.R_below f_T hb
                have m_L13 := Kd.R_below f_L13 hb
                have m_L19 := Kd.R_below f_L19 hb
                refine hK.out _ _ ⟨BoxAt.c1 m_G, (HSX.out _ m_B)⟩ (fun hHeld => ?_)
                clear hK K
                refine norm_ (a' := ?_) ?_ ?_
                rotate_left
                · show Act.put _ (some 141) _ = _
                  simp only [Act.put, List.setIfInBounds_toArray, List.set_cons_zero, List.set_cons_succ, i64_w, i32_w]
                  rfl
                exact norm_ (by simp only [putAll, Act.put, List.setIfInBounds_toArray, List.set_cons_zero, List.set_cons_succ]) (hN_l7_l13_l19 (A7, c7, A13, c13, A19, c19) _ ⟨m_B, m_G, m_R, m_T, m_L7, m_L13, m_L19⟩)
              · skip
                refine Kd.R_lit_step (Kd.int .i64) _ 2 (by rfl) (N := 157) rfl (xs := ([D, E', F'] : List Int)) (inner := [.int .i64 D, .int .i64 E', .int .i64 F']) (ok := fun _ => True) (okp := fun _ => True) (by first | (go_simp; done) | (go_simp; rfl)) (Reps.one (show Kd.M (Kd.int .i64) _ _ _ (D) [.int .i64 (D)] from rfl) (Reps.one (show Kd.M (Kd.int .i64) _ _ _ (E') [.int .i64 (E')] from rfl) (Reps.one (show Kd.M (Kd.int .i64) _ _ _ (F') [.int .i64 (F')] from rfl) (Reps.none _ _)))) (fun _ hk => hk) trivial (Below.refl _ _) (Nat.le_refl _) (by simp) ?_
                intro va wz ho hb hg_ hn_
                obtain ⟨A23, c23, rfl⟩ : ∃ A c, va = .slice A 3 c := Kd.R_slice ho
                have m_L23 : Kd.R (Kd.int .i64) 2 wz u.heap.size (fun _ => True) (.slice A23 3 c23) [D, E', F'] := Kd.R_lower ho f_B.size
                clear ho hg_ hn_
                have m_B := below_step f_B hb
                have m_G := f_G.below hb
                have m_R := Kd.R_below f_R hb
                have m_T := Kd.R_below f_T hb
                have m_L13 := Kd.R_below f_L13 hb
                have m_L19 := Kd.R_below f_L19 hb
                refine hK.out _ _ ⟨BoxAt.c1 m_G, (HSX.out _ m_B)⟩ (fun hHeld => ?_)
                clear hK K
                refine norm_ (a' := ?_) ?_ ?_
                rotate_left
                · show Act.put _ (some 157) _ = _
                  simp only [Act.put, List.setIfInBounds_toArray, List.set_cons_zero, List.set_cons_succ, i64_w, i32_w]
                  rfl
                exact norm_ (by simp only [putAll, Act.put, List.setIfInBounds_toArray, List.set_cons_zero, List.set_cons_succ]) (hN_l13_l19_l23 (A13, c13, A19, c19, A23, c23) _ ⟨m_B, m_G, m_R, m_T, m_L13, m_L19, m_L23⟩)
            intro hN_l13_l19
            refine join_ (σ := Option Addr × Nat × Option Addr × Nat) 6 #[true, true, true, true, true, true, true, false, true, true, true, true, true, true, true, true, true, true, true, false, true, true, true, true, false, false, false, false] (fun s_ => [(147, .slice s_.1 3 s_.2.1), (157, .slice s_.2.2.1 3 s_.2.2.2)]) (fun s_ w' => (Below u.heap.size u w') ∧ (BoxAt w' h 30 vq vT) ∧ (Kd.R k59 59 w' u.heap.size (fun _ => True) vq ballP) ∧ (Kd.R (Kd.slice 2 (Kd.int .i64)) 34 w' u.heap.size (fun _ => True) vT (fT i)) ∧ (Kd.R (Kd.int .i64) 2 w' u.heap.size (fun _ => True) (.slice s_.1 3 s_.2.1) [D, t1, E']) ∧ (Kd.R (Kd.int .i64) 2 w' u.heap.size (fun _ => True) (.slice s_.2.2.1 3 s_.2.2.2) [D, E', F'])) ?_ ?_
            · skip
              rintro ⟨A13, c13, A23, c23⟩ wn ⟨f_B, f_G, f_R, f_T, f_L13, f_L23⟩
              replace f_B : Below u.heap.size u wn := f_B
              replace f_G : BoxAt wn h 30 vq vT := f_G
              replace f_R : Kd.R k59 59 wn u.heap.size (fun _ => True) vq ballP := f_R
              replace f_T : Kd.R (Kd.slice 2 (Kd.int .i64)) 34 wn u.heap.size (fun _ => True) vT (fT i) := f_T
              replace f_L13 : Kd.R (Kd.int .i64) 2 wn u.heap.size (fun _ => True) (.slice A13 3 c13) [D, t1, E'] := f_L13
              replace f_L23 : Kd.R (Kd.int .i64) 2 wn u.heap.size (fun _ => True) (.slice A23 3 c23) [D, E', F'] := f_L23
              refine norm_ (a' := ?_) ?_ ?_
              rotate_left
              · simp only [putAll, Act.put, List.setIfInBounds_toArray, List.set_cons_zero, List.set_cons_succ]; rfl
              refine two_ (i := 7) (j := 19) (Ni := (some 141)) (Nj := (some 153)) #[true, true, true, true, true, true, true, true, true, true, true, true, true, true, true, true, true, true, true, false, true, true, true, true, false, false, false, false] #[true, true, true, true, true, true, true, false, true, true, true, true, true, true, true, true, true, true, true, true, true, true, true, true, false, false, false, false] rfl rfl rfl rfl (by kernel_rfl) (by decide) (by decide) (fun K hK => ?_) (fun K hK => ?_) 
              · skip
                refine Kd.R_lit_step (Kd.int .i64) _ 2 (by rfl) (N := 141) rfl (xs := ([t0, D, F'] : List Int)) (inner := [.int .i64 t0, .int .i64 D, .int .i64 F']) (ok := fun _ => True) (okp := fun _ => True) (by first | (go_simp; done) | (go_simp; rfl)) (Reps.one (show Kd.M (Kd.int .i64) _ _ _ (t0) [.int .i64 (t0)] from rfl) (Reps.one (show Kd.M (Kd.int .i64) _ _ _ (D) [.int .i64 (D)] from rfl) (Reps.one (show Kd.M (Kd.int .i64) _ _ _ (F') [.int .i64 (F')] from rfl) (Reps.none _ _)))) (fun _ hk => hk) trivial (Below.refl _ _) (Nat.le_refl _) (by simp) ?_
                intro va wz ho hb hg_ hn_
                obtain ⟨A7, c7, rfl⟩ : ∃ A c, va = .slice A 3 c := Kd.R_slice ho
                have m_L7 : Kd.R (Kd.int .i64) 2 wz u.heap.size (fun _ => True) (.slice A7 3 c7) [t0, D, F'] := Kd.R_lower ho f_B.size
                clear ho hg_ hn_
                have m_B := below_step f_B hb
                have m_G := f_G.below hb
                have m_R := Kd.R_below f_R hb
                have m_T := Kd.R_below f_T hb
                have m_L13 := Kd.R_below f_L13 hb
                have m_L23 := Kd.R_below f_L23 hb
                refine hK.out _ _ ⟨BoxAt.c1 m_G, (HSX.out _ m_B)⟩ (fun hHeld => ?_)
                clear hK K
                refine norm_ (a' := ?_) ?_ ?_
                rotate_left
                · show Act.put _ (some 141) _ = _
                  simp only [Act.put, List.setIfInBounds_toArray, List.set_cons_zero, List.set_cons_succ, i64_w, i32_w]
                  rfl
                exact norm_ (by simp only [putAll, Act.put, List.setIfInBounds_toArray, List.set_cons_zero, List.set_cons_succ]) (hN_l7_l13_l23 (A7, c7, A13, c13, A23, c23) _ ⟨m_B, m_G, m_R, m_T, m_L7, m_L13, m_L23⟩)
              · skip
                refine Kd.R_lit_step (Kd.int .i64) _ 2 (by rfl) (N := 153) rfl (xs := ([F', E', t2] : List Int)) (inner := [.int .i64 F', .int .i64 E', .int .i64 t2]) (ok := fun _ => True) (okp := fun _ => True) (by first | (go_simp; done) | (go_simp; rfl)) (Reps.one (show Kd.M (Kd.int .i64) _ _ _ (F') [.int .i64 (F')] from rfl) (Reps.one (show Kd.M (Kd.int .i64) _ _ _ (E') [.int .i64 (E')] from rfl) (Reps.one (show Kd.M (Kd.int .i64) _ _ _ (t2) [.int .i64 (t2)] from rfl) (Reps.none _ _)))) (fun _ hk => hk) trivial (Below.refl _ _) (Nat.le_refl _) (by simp) ?_
                intro va wz ho hb hg_ hn_
                obtain ⟨A19, c19, rfl⟩ : ∃ A c, va = .slice A 3 c := Kd.R_slice ho
                have m_L19 : Kd.R (Kd.int .i64) 2 wz u.heap.size (fun _ => True) (.slice A19 3 c19) [F', E', t2] := Kd.R_lower ho f_B.size
                clear ho hg_ hn_
                have m_B := below_step f_B hb
                have m_G := f_G.below hb
                have m_R := Kd.R_below f_R hb
                have m_T := Kd.R_below f_T hb
                have m_L13 := Kd.R_below f_L13 hb
                have m_L23 := Kd.R_below f_L23 hb
                refine hK.out _ _ ⟨BoxAt.c1 m_G, (HSX.out _ m_B)⟩ (fun hHeld => ?_)
                clear hK K
                refine norm_ (a' := ?_) ?_ ?_
                rotate_left
                · show Act.put _ (some 153) _ = _
                  simp only [Act.put, List.setIfInBounds_toArray, List.set_cons_zero, List.set_cons_succ, i64_w, i32_w]
                  rfl
                exact norm_ (by simp only [putAll, Act.put, List.setIfInBounds_toArray, List.set_cons_zero, List.set_cons_succ]) (hN_l13_l19_l23 (A13, c13, A19, c19, A23, c23) _ ⟨m_B, m_G, m_R, m_T, m_L13, m_L19, m_L23⟩)
            intro hN_l13_l23
            refine join_ (σ := Option Addr × Nat × Option Addr × Nat) 6 #[true, true, true, true, true, true, true, false, true, true, true, true, true, false, true, true, true, true, true, true, true, true, true, true, false, false, false, false] (fun s_ => [(153, .slice s_.1 3 s_.2.1), (157, .slice s_.2.2.1 3 s_.2.2.2)]) (fun s_ w' => (Below u.heap.size u w') ∧ (BoxAt w' h 30 vq vT) ∧ (Kd.R k59 59 w' u.heap.size (fun _ => True) vq ballP) ∧ (Kd.R (Kd.slice 2 (Kd.int .i64)) 34 w' u.heap.size (fun _ => True) vT (fT i)) ∧ (Kd.R (Kd.int .i64) 2 w' u.heap.size (fun _ => True) (.slice s_.1 3 s_.2.1) [F', E', t2]) ∧ (Kd.R (Kd.int .i64) 2 w' u.heap.size (fun _ => True) (.slice s_.2.2.1 3 s_.2.2.2) [D, E', F'])) ?_ ?_
            · skip
              rintro ⟨A19, c19, A23, c23⟩ wn ⟨f_B, f_G, f_R, f_T, f_L19, f_L23⟩
              replace f_B : Below u.heap.size u wn := f_B
              replace f_G : BoxAt wn h 30 vq vT := f_G
              replace f_R : Kd.R k59 59 wn u.heap.size (fun _ => True) vq ballP := f_R
              replace f_T : Kd.R (Kd.slice 2 (Kd.int .i64)) 34 wn u.heap.size (fun _ => True) vT (fT i) := f_T
              replace f_L19 : Kd.R (Kd.int .i64) 2 wn u.heap.size (fun _ => True) (.slice A19 3 c19) [F', E', t2] := f_L19
              replace f_L23 : Kd.R (Kd.int .i64) 2 wn u.heap.size (fun _ => True) (.slice A23 3 c23) [D, E', F'] := f_L23
              refine norm_ (a' := ?_) ?_ ?_
              rotate_left
              · simp only [putAll, Act.put, List.setIfInBounds_toArray, List.set_cons_zero, List.set_cons_succ]; rfl
              refine two_ (i := 7) (j := 13) (Ni := (some 141)) (Nj := (some 147)) #[true, true, true, true, true, true, true, true, true, true, true, true, true, false, true, true, true, true, true, true, true, true, true, true, false, false, false, false] #[true, true, true, true, true, true, true, false, true, true, true, true, true, true, true, true, true, true, true, true, true, true, true, true, false, false, false, false] rfl rfl rfl rfl (by kernel_rfl) (by decide) (by decide) (fun K hK => ?_) (fun K hK => ?_) 
              · skip
                refine Kd.R_lit_step (Kd.int .i64) _ 2 (by rfl) (N := 141) rfl (xs := ([t0, D, F'] : List Int)) (inner := [.int .i64 t0, .int .i64 D, .int .i64 F']) (ok := fun _ => True) (okp := fun _ => True) (by first | (go_simp; done) | (go_simp; rfl)) (Reps.one (show Kd.M (Kd.int .i64) _ _ _ (t0) [.int .i64 (t0)] from rfl) (Reps.one (show Kd.M (Kd.int .i64) _ _ _ (D) [.int .i64 (D)] from rfl) (Reps.one (show Kd.M (Kd.int .i64) _ _ _ (F') [.int .i64 (F')] from rfl) (Reps.none _ _)))) (fun _ hk => hk) trivial (Below.refl _ _) (Nat.le_refl _) (by simp) ?_
                intro va wz ho hb hg_ hn_
                obtain ⟨A7, c7, rfl⟩ : ∃ A c, va = .slice A 3 c := Kd.R_slice ho
                have m_L7 : Kd.R (Kd.int .i64) 2 wz u.heap.size (fun _ => True) (.slice A7 3 c7) [t0, D, F'] := Kd.R_lower ho f_B.size
                clear ho hg_ hn_
                have m_B := below_step f_B hb
                have m_G := f_G.below hb
                have m_R := Kd.R_below f_R hb
                have m_T := Kd.R_below f_T hb
                have m_L19 := Kd.R_below f_L19 hb
                have m_L23 := Kd.R_below f_L23 hb
                refine hK.out _ _ ⟨BoxAt.c1 m_G, (HSX.out _ m_B)⟩ (fun hHeld => ?_)
                clear hK K
                refine norm_ (a' := ?_) ?_ ?_
                rotate_left
                · show Act.put _ (some 141) _ = _
                  simp only [Act.put, List.setIfInBounds_toArray, List.set_cons_zero, List.set_cons_succ, i64_w, i32_w]
                  rfl
                exact norm_ (by simp only [putAll, Act.put, List.setIfInBounds_toArray, List.set_cons_zero, List.set_cons_succ]) (hN_l7_l19_l23 (A7, c7, A19, c19, A23, c23) _ ⟨m_B, m_G, m_R, m_T, m_L7, m_L19, m_L23⟩)
              · skip
                refine Kd.R_lit_step (Kd.int .i64) _ 2 (by rfl) (N := 147) rfl (xs := ([D, t1, E'] : List Int)) (inner := [.int .i64 D, .int .i64 t1, .int .i64 E']) (ok := fun _ => True) (okp := fun _ => True) (by first | (go_simp; done) | (go_simp; rfl)) (Reps.one (show Kd.M (Kd.int .i64) _ _ _ (D) [.int .i64 (D)] from rfl) (Reps.one (show Kd.M (Kd.int .i64) _ _ _ (t1) [.int .i64 (t1)] from rfl) (Reps.one (show Kd.M (Kd.int .i64) _ _ _ (E') [.int .i64 (E')] from rfl) (Reps.none _ _)))) (fun _ hk => hk) trivial (Below.refl _ _) (Nat.le_refl _) (by simp) ?_
                intro va wz ho hb hg_ hn_
                obtain ⟨A13, c13, rfl⟩ : ∃ A c, va = .slice A 3 c := Kd.R_slice ho
                have m_L13 : Kd.R (Kd.int .i64) 2 wz u.heap.size (fun _ => True) (.slice A13 3 c13) [D, t1, E'] := Kd.R_lower ho f_B.size
                clear ho hg_ hn_
                have m_B := below_step f_B hb
                have m_G := f_G.below hb
                have m_R := Kd.R_below f_R hb
                have m_T := Kd.R_below f_T hb
                have m_L19 := Kd.R_below f_L19 hb
                have m_L23 := Kd.R_below f_L23 hb
                refine hK.out _ _ ⟨BoxAt.c1 m_G, (HSX.out _ m_B)⟩ (fun hHeld => ?_)
                clear hK K
                refine norm_ (a' := ?_) ?_ ?_
                rotate_left
                · show Act.put _ (some 147) _ = _
                  simp only [Act.put, List.setIfInBounds_toArray, List.set_cons_zero, List.set_cons_succ, i64_w, i32_w]
                  rfl
                exact norm_ (by simp only [putAll, Act.put, List.setIfInBounds_toArray, List.set_cons_zero, List.set_cons_succ]) (hN_l13_l19_l23 (A13, c13, A19, c19, A23, c23) _ ⟨m_B, m_G, m_R, m_T, m_L13, m_L19, m_L23⟩)
            intro hN_l19_l23
            refine join_ (σ := Option Addr × Nat) 7 #[true, true, true, true, true, true, true, true, true, true, true, true, true, false, true, true, true, true, true, false, true, true, true, false, false, false, false, false] (fun s_ => [(141, .slice s_.1 3 s_.2)]) (fun s_ w' => (Below u.heap.size u w') ∧ (BoxAt w' h 30 vq vT) ∧ (Kd.R k59 59 w' u.heap.size (fun _ => True) vq ballP) ∧ (Kd.R (Kd.slice 2 (Kd.int .i64)) 34 w' u.heap.size (fun _ => True) vT (fT i)) ∧ (Kd.R (Kd.int .i64) 2 w' u.heap.size (fun _ => True) (.slice s_.1 3 s_.2) [t0, D, F'])) ?_ ?_
            · skip
              rintro ⟨A7, c7⟩ wn ⟨f_B, f_G, f_R, f_T, f_L7⟩
              replace f_B : Below u.heap.size u wn := f_B
              replace f_G : BoxAt wn h 30 vq vT := f_G
              replace f_R : Kd.R k59 59 wn u.heap.size (fun _ => True) vq ballP := f_R
              replace f_T : Kd.R (Kd.slice 2 (Kd.int .i64)) 34 wn u.heap.size (fun _ => True) vT (fT i) := f_T
              replace f_L7 : Kd.R (Kd.int .i64) 2 wn u.heap.size (fun _ => True) (.slice A7 3 c7) [t0, D, F'] := f_L7
              refine norm_ (a' := ?_) ?_ ?_
              rotate_left
              · simp only [putAll, Act.put, List.setIfInBounds_toArray, List.set_cons_zero, List.set_cons_succ]; rfl
              refine three_ (i := 13) (j := 19) (k := 23) (Ni := (some 147)) (Nj := (some 153)) (Nk := (some 157)) #[true, true, true, true, true, true, true, true, true, true, true, true, true, true, true, true, true, true, true, false, true, true, true, false, false, false, false, false] #[true, true, true, true, true, true, true, true, true, true, true, true, true, false, true, true, true, true, true, true, true, true, true, false, false, false, false, false] #[true, true, true, true, true, true, true, true, true, true, true, true, true, false, true, true, true, true, true, false, true, true, true, true, false, false, false, false] rfl rfl rfl rfl rfl rfl (by kernel_rfl) (by decide) (by decide) (by decide) (fun K hK => ?_) (fun K hK => ?_) (fun K hK => ?_) 
              · skip
                refine Kd.R_lit_step (Kd.int .i64) _ 2 (by rfl) (N := 147) rfl (xs := ([D, t1, E'] : List Int)) (inner := [.int .i64 D, .int .i64 t1, .int .i64 E']) (ok := fun _ => True) (okp := fun _ => True) (by first | (go_simp; done) | (go_simp; rfl)) (Reps.one (show Kd.M (Kd.int .i64) _ _ _ (D) [.int .i64 (D)] from rfl) (Reps.one (show Kd.M (Kd.int .i64) _ _ _ (t1) [.int .i64 (t1)] from rfl) (Reps.one (show Kd.M (Kd.int .i64) _ _ _ (E') [.int .i64 (E')] from rfl) (Reps.none _ _)))) (fun _ hk => hk) trivial (Below.refl _ _) (Nat.le_refl _) (by simp) ?_
                intro va wz ho hb hg_ hn_
                obtain ⟨A13, c13, rfl⟩ : ∃ A c, va = .slice A 3 c := Kd.R_slice ho
                have m_L13 : Kd.R (Kd.int .i64) 2 wz u.heap.size (fun _ => True) (.slice A13 3 c13) [D, t1, E'] := Kd.R_lower ho f_B.size
                clear ho hg_ hn_
                have m_B := below_step f_B hb
                have m_G := f_G.below hb
                have m_R := Kd.R_below f_R hb
                have m_T := Kd.R_below f_T hb
                have m_L7 := Kd.R_below f_L7 hb
                refine hK.out _ _ ⟨BoxAt.c1 m_G, (HSX.out _ m_B)⟩ (fun hHeld => ?_)
                clear hK K
                refine norm_ (a' := ?_) ?_ ?_
                rotate_left
                · show Act.put _ (some 147) _ = _
                  simp only [Act.put, List.setIfInBounds_toArray, List.set_cons_zero, List.set_cons_succ, i64_w, i32_w]
                  rfl
                exact norm_ (by simp only [putAll, Act.put, List.setIfInBounds_toArray, List.set_cons_zero, List.set_cons_succ]) (hN_l7_l13 (A7, c7, A13, c13) _ ⟨m_B, m_G, m_R, m_T, m_L7, m_L13⟩)
              · skip
                refine Kd.R_lit_step (Kd.int .i64) _ 2 (by rfl) (N := 153) rfl (xs := ([F', E', t2] : List Int)) (inner := [.int .i64 F', .int .i64 E', .int .i64 t2]) (ok := fun _ => True) (okp := fun _ => True) (by first | (go_simp; done) | (go_simp; rfl)) (Reps.one (show Kd.M (Kd.int .i64) _ _ _ (F') [.int .i64 (F')] from rfl) (Reps.one (show Kd.M (Kd.int .i64) _ _ _ (E') [.int .i64 (E')] from rfl) (Reps.one (show Kd.M (Kd.int .i64) _ _ _ (t2) [.int .i64 (t2)] from rfl) (Reps.none _ _)))) (fun _ hk => hk) trivial (Below.refl _ _) (Nat.le_refl _) (by simp) ?_
                intro va wz ho hb hg_ hn_
                obtain ⟨A19, c19, rfl⟩ : ∃ A c, va = .slice A 3 c := Kd.R_slice ho
                have m_L19 : Kd.R (Kd.int .i64) 2 wz u.heap.size (fun _ => True) (.slice A19 3 c19) [F', E', t2] := Kd.R_lower ho f_B.size
                clear ho hg_ hn_
                have m_B := below_step f_B hb
                have m_G := f_G.below hb
                have m_R := Kd.R_below f_R hb
                have m_T := Kd.R_below f_T hb
                have m_L7 := Kd.R_below f_L7 hb
                refine hK.out _ _ ⟨BoxAt.c1 m_G, (HSX.out _ m_B)⟩ (fun hHeld => ?_)
                clear hK K
                refine norm_ (a' := ?_) ?_ ?_
                rotate_left
                · show Act.put _ (some 153) _ = _
                  simp only [Act.put, List.setIfInBounds_toArray, List.set_cons_zero, List.set_cons_succ, i64_w, i32_w]
                  rfl
                exact norm_ (by simp only [putAll, Act.put, List.setIfInBounds_toArray, List.set_cons_zero, List.set_cons_succ]) (hN_l7_l19 (A7, c7, A19, c19) _ ⟨m_B, m_G, m_R, m_T, m_L7, m_L19⟩)
              · skip
                refine Kd.R_lit_step (Kd.int .i64) _ 2 (by rfl) (N := 157) rfl (xs := ([D, E', F'] : List Int)) (inner := [.int .i64 D, .int .i64 E', .int .i64 F']) (ok := fun _ => True) (okp := fun _ => True) (by first | (go_simp; done) | (go_simp; rfl)) (Reps.one (show Kd.M (Kd.int .i64) _ _ _ (D) [.int .i64 (D)] from rfl) (Reps.one (show Kd.M (Kd.int .i64) _ _ _ (E') [.int .i64 (E')] from rfl) (Reps.one (show Kd.M (Kd.int .i64) _ _ _ (F') [.int .i64 (F')] from rfl) (Reps.none _ _)))) (fun _ hk => hk) trivial (Below.refl _ _) (Nat.le_refl _) (by simp) ?_
                intro va wz ho hb hg_ hn_
                obtain ⟨A23, c23, rfl⟩ : ∃ A c, va = .slice A 3 c := Kd.R_slice ho
                have m_L23 : Kd.R (Kd.int .i64) 2 wz u.heap.size (fun _ => True) (.slice A23 3 c23) [D, E', F'] := Kd.R_lower ho f_B.size
                clear ho hg_ hn_
                have m_B := below_step f_B hb
                have m_G := f_G.below hb
                have m_R := Kd.R_below f_R hb
                have m_T := Kd.R_below f_T hb
                have m_L7 := Kd.R_below f_L7 hb
                refine hK.out _ _ ⟨BoxAt.c1 m_G, (HSX.out _ m_B)⟩ (fun hHeld => ?_)
                clear hK K
                refine norm_ (a' := ?_) ?_ ?_
                rotate_left
                · show Act.put _ (some 157) _ = _
                  simp only [Act.put, List.setIfInBounds_toArray, List.set_cons_zero, List.set_cons_succ, i64_w, i32_w]
                  rfl
                exact norm_ (by simp only [putAll, Act.put, List.setIfInBounds_toArray, List.set_cons_zero, List.set_cons_succ]) (hN_l7_l23 (A7, c7, A23, c23) _ ⟨m_B, m_G, m_R, m_T, m_L7, m_L23⟩)
            intro hN_l7
            refine join_ (σ := Option Addr × Nat) 7 #[true, true, true, true, true, true, true, false, true, true, true, true, true, true, true, true, true, true, true, false, true, true, true, false, false, false, false, false] (fun s_ => [(147, .slice s_.1 3 s_.2)]) (fun s_ w' => (Below u.heap.size u w') ∧ (BoxAt w' h 30 vq vT) ∧ (Kd.R k59 59 w' u.heap.size (fun _ => True) vq ballP) ∧ (Kd.R (Kd.slice 2 (Kd.int .i64)) 34 w' u.heap.size (fun _ => True) vT (fT i)) ∧ (Kd.R (Kd.int .i64) 2 w' u.heap.size (fun _ => True) (.slice s_.1 3 s_.2) [D, t1, E'])) ?_ ?_
            · skip
              rintro ⟨A13, c13⟩ wn ⟨f_B, f_G, f_R, f_T, f_L13⟩
              replace f_B : Below u.heap.size u wn := f_B
              replace f_G : BoxAt wn h 30 vq vT := f_G
              replace f_R : Kd.R k59 59 wn u.heap.size (fun _ => True) vq ballP := f_R
              replace f_T : Kd.R (Kd.slice 2 (Kd.int .i64)) 34 wn u.heap.size (fun _ => True) vT (fT i) := f_T
              replace f_L13 : Kd.R (Kd.int .i64) 2 wn u.heap.size (fun _ => True) (.slice A13 3 c13) [D, t1, E'] := f_L13
              refine norm_ (a' := ?_) ?_ ?_
              rotate_left
              · simp only [putAll, Act.put, List.setIfInBounds_toArray, List.set_cons_zero, List.set_cons_succ]; rfl
              refine three_ (i := 7) (j := 19) (k := 23) (Ni := (some 141)) (Nj := (some 153)) (Nk := (some 157)) #[true, true, true, true, true, true, true, true, true, true, true, true, true, true, true, true, true, true, true, false, true, true, true, false, false, false, false, false] #[true, true, true, true, true, true, true, false, true, true, true, true, true, true, true, true, true, true, true, true, true, true, true, false, false, false, false, false] #[true, true, true, true, true, true, true, false, true, true, true, true, true, true, true, true, true, true, true, false, true, true, true, true, false, false, false, false] rfl rfl rfl rfl rfl rfl (by kernel_rfl) (by decide) (by decide) (by decide) (fun K hK => ?_) (fun K hK => ?_) (fun K hK => ?_) 
              · skip
                refine Kd.R_lit_step (Kd.int .i64) _ 2 (by rfl) (N := 141) rfl (xs := ([t0, D, F'] : List Int)) (inner := [.int .i64 t0, .int .i64 D, .int .i64 F']) (ok := fun _ => True) (okp := fun _ => True) (by first | (go_simp; done) | (go_simp; rfl)) (Reps.one (show Kd.M (Kd.int .i64) _ _ _ (t0) [.int .i64 (t0)] from rfl) (Reps.one (show Kd.M (Kd.int .i64) _ _ _ (D) [.int .i64 (D)] from rfl) (Reps.one (show Kd.M (Kd.int .i64) _ _ _ (F') [.int .i64 (F')] from rfl) (Reps.none _ _)))) (fun _ hk => hk) trivial (Below.refl _ _) (Nat.le_refl _) (by simp) ?_
                intro va wz ho hb hg_ hn_
                obtain ⟨A7, c7, rfl⟩ : ∃ A c, va = .slice A 3 c := Kd.R_slice ho
                have m_L7 : Kd.R (Kd.int .i64) 2 wz u.heap.size (fun _ => True) (.slice A7 3 c7) [t0, D, F'] := Kd.R_lower ho f_B.size
                clear ho hg_ hn_
                have m_B := below_step f_B hb
                have m_G := f_G.below hb
                have m_R := Kd.R_below f_R hb
                have m_T := Kd.R_below f_T hb
                have m_L13 := Kd.R_below f_L13 hb
                refine hK.out _ _ ⟨BoxAt.c1 m_G, (HSX.out _ m_B)⟩ (fun hHeld => ?_)
                clear hK K
                refine norm_ (a' := ?_) ?_ ?_
                rotate_left
                · show Act.put _ (some 141) _ = _
                  simp only [Act.put, List.setIfInBounds_toArray, List.set_cons_zero, List.set_cons_succ, i64_w, i32_w]
                  rfl
                exact norm_ (by simp only [putAll, Act.put, List.setIfInBounds_toArray, List.set_cons_zero, List.set_cons_succ]) (hN_l7_l13 (A7, c7, A13, c13) _ ⟨m_B, m_G, m_R, m_T, m_L7, m_L13⟩)
              · skip
                refine Kd.R_lit_step (Kd.int .i64) _ 2 (by rfl) (N := 153) rfl (xs := ([F', E', t2] : List Int)) (inner := [.int .i64 F', .int .i64 E', .int .i64 t2]) (ok := fun _ => True) (okp := fun _ => True) (by first | (go_simp; done) | (go_simp; rfl)) (Reps.one (show Kd.M (Kd.int .i64) _ _ _ (F') [.int .i64 (F')] from rfl) (Reps.one (show Kd.M (Kd.int .i64) _ _ _ (E') [.int .i64 (E')] from rfl) (Reps.one (show Kd.M (Kd.int .i64) _ _ _ (t2) [.int .i64 (t2)] from rfl) (Reps.none _ _)))) (fun _ hk => hk) trivial (Below.refl _ _) (Nat.le_refl _) (by simp) ?_
                intro va wz ho hb hg_ hn_
                obtain ⟨A19, c19, rfl⟩ : ∃ A c, va = .slice A 3 c := Kd.R_slice ho
                have m_L19 : Kd.R (Kd.int .i64) 2 wz u.heap.size (fun _ => True) (.slice A19 3 c19) [F', E', t2] := Kd.R_lower ho f_B.size
                clear ho hg_ hn_
                have m_B := below_step f_B hb
                have m_G := f_G.below hb
                have m_R := Kd.R_below f_R hb
                have m_T := Kd.R_below f_T hb
                have m_L13 := Kd.R_below f_L13 hb
                refine hK.out _ _ ⟨BoxAt.c1 m_G, (HSX.out _ m_B)⟩ (fun hHeld => ?_)
                clear hK K
                refine norm_ (a' := ?_) ?_ ?_
                rotate_left
                · show Act.put _ (some 153) _ = _
                  simp only [Act.put, List.setIfInBounds_toArray, List.set_cons_zero, List.set_cons_succ, i64_w, i32_w]
                  rfl
                exact norm_ (by simp only [putAll, Act.put, List.setIfInBounds_toArray, List.set_cons_zero, List.set_cons_succ]) (hN_l13_l19 (A13, c13, A19, c19) _ ⟨m_B, m_G, m_R, m_T, m_L13, m_L19⟩)
              · skip
                refine Kd.R_lit_step (Kd.int .i64) _ 2 (by rfl) (N := 157) rfl (xs := ([D, E', F'] : List Int)) (inner := [.int .i64 D, .int .i64 E', .int .i64 F']) (ok := fun _ => True) (okp := fun _ => True) (by first | (go_simp; done) | (go_simp; rfl)) (Reps.one (show Kd.M (Kd.int .i64) _ _ _ (D) [.int .i64 (D)] from rfl) (Reps.one (show Kd.M (Kd.int .i64) _ _ _ (E') [.int .i64 (E')] from rfl) (Reps.one (show Kd.M (Kd.int .i64) _ _ _ (F') [.int .i64 (F')] from rfl) (Reps.none _ _)))) (fun _ hk => hk) trivial (Below.refl _ _) (Nat.le_refl _) (by simp) ?_
                intro va wz ho hb hg_ hn_
                obtain ⟨A23, c23, rfl⟩ : ∃ A c, va = .slice A 3 c := Kd.R_slice ho
                have m_L23 : Kd.R (Kd.int .i64) 2 wz u.heap.size (fun _ => True) (.slice A23 3 c23) [D, E', F'] := Kd.R_lower ho f_B.size
                clear ho hg_ hn_
                have m_B := below_step f_B hb
                have m_G := f_G.below hb
                have m_R := Kd.R_below f_R hb
                have m_T := Kd.R_below f_T hb
                have m_L13 := Kd.R_below f_L13 hb
                refine hK.out _ _ ⟨BoxAt.c1 m_G, (HSX.out _ m_B)⟩ (fun hHeld => ?_)
                clear hK K
                refine norm_ (a' := ?_) ?_ ?_
                rotate_left
                · show Act.put _ (some 157) _ = _
                  simp only [Act.put, List.setIfInBounds_toArray, List.set_cons_zero, List.set_cons_succ, i64_w, i32_w]
                  rfl
                exact norm_ (by simp only [putAll, Act.put, List.setIfInBounds_toArray, List.set_cons_zero, List.set_cons_succ]) (hN_l13_l23 (A13, c13, A23, c23) _ ⟨m_B, m_G, m_R, m_T, m_L13, m_L23⟩)
            intro hN_l13
            refine join_ (σ := Option Addr × Nat) 7 #[true, true, true, true, true, true, true, false, true, true, true, true, true, false, true, true, true, true, true, true, true, true, true, false, false, false, false, false] (fun s_ => [(153, .slice s_.1 3 s_.2)]) (fun s_ w' => (Below u.heap.size u w') ∧ (BoxAt w' h 30 vq vT) ∧ (Kd.R k59 59 w' u.heap.size (fun _ => True) vq ballP) ∧ (Kd.R (Kd.slice 2 (Kd.int .i64)) 34 w' u.heap.size (fun _ => True) vT (fT i)) ∧ (Kd.R (Kd.int .i64) 2 w' u.heap.size (fun _ => True) (.slice s_.1 3 s_.2) [F', E', t2])) ?_ ?_
            · skip
              rintro ⟨A19, c19⟩ wn ⟨f_B, f_G, f_R, f_T, f_L19⟩
              replace f_B : Below u.heap.size u wn := f_B
              replace f_G : BoxAt wn h 30 vq vT := f_G
              replace f_R : Kd.R k59 59 wn u.heap.size (fun _ => True) vq ballP := f_R
              replace f_T : Kd.R (Kd.slice 2 (Kd.int .i64)) 34 wn u.heap.size (fun _ => True) vT (fT i) := f_T
              replace f_L19 : Kd.R (Kd.int .i64) 2 wn u.heap.size (fun _ => True) (.slice A19 3 c19) [F', E', t2] := f_L19
              refine norm_ (a' := ?_) ?_ ?_
              rotate_left
              · simp only [putAll, Act.put, List.setIfInBounds_toArray, List.set_cons_zero, List.set_cons_succ]; rfl
              refine three_ (i := 7) (j := 13) (k := 23) (Ni := (some 141)) (Nj := (some 147)) (Nk := (some 157)) #[true, true, true, true, true, true, true, true, true, true, true, true, true, false, true, true, true, true, true, true, true, true, true, false, false, false, false, false] #[true, true, true, true, true, true, true, false, true, true, true, true, true, true, true, true, true, true, true, true, true, true, true, false, false, false, false, false] #[true, true, true, true, true, true, true, false, true, true, true, true, true, false, true, true, true, true, true, true, true, true, true, true, false, false, false, false] rfl rfl rfl rfl rfl rfl (by kernel_rfl) (by decide) (by decide) (by decide) (fun K hK => ?_) (fun K hK => ?_) (fun K hK => ?_) 
              · skip
                refine Kd.R_lit_step (Kd.int .i64) _ 2 (by rfl) (N := 141) rfl (xs := ([t0, D, F'] : List Int)) (inner := [.int .i64 t0, .int .i64 D, .int .i64 F']) (ok := fun _ => True) (okp := fun _ => True) (by first | (go_simp; done) | (go_simp; rfl)) (Reps.one (show Kd.M (Kd.int .i64) _ _ _ (t0) [.int .i64 (t0)] from rfl) (Reps.one (show Kd.M (Kd.int .i64) _ _ _ (D) [.int .i64 (D)] from rfl) (Reps.one (show Kd.M (Kd.int .i64) _ _ _ (F') [.int .i64 (F')] from rfl) (Reps.none _ _)))) (fun _ hk => hk) trivial (Below.refl _ _) (Nat.le_refl _) (by simp) ?_
                intro va wz ho hb hg_ hn_
                obtain ⟨A7, c7, rfl⟩ : ∃ A c, va = .slice A 3 c := Kd.R_slice ho
                have m_L7 : Kd.R (Kd.int .i64) 2 wz u.heap.size (fun _ => True) (.slice A7 3 c7) [t0, D, F'] := Kd.R_lower ho f_B.size
                clear ho hg_ hn_
                have m_B := below_step f_B hb
                have m_G := f_G.below hb
                have m_R := Kd.R_below f_R hb
                have m_T := Kd.R_below f_T hb
                have m_L19 := Kd.R_below f_L19 hb
                refine hK.out _ _ ⟨BoxAt.c1 m_G, (HSX.out _ m_B)⟩ (fun hHeld => ?_)
                clear hK K
                refine norm_ (a' := ?_) ?_ ?_
                rotate_left
                · show Act.put _ (some 141) _ = _
                  simp only [Act.put, List.setIfInBounds_toArray, List.set_cons_zero, List.set_cons_succ, i64_w, i32_w]
                  rfl
                exact norm_ (by simp only [putAll, Act.put, List.setIfInBounds_toArray, List.set_cons_zero, List.set_cons_succ]) (hN_l7_l19 (A7, c7, A19, c19) _ ⟨m_B, m_G, m_R, m_T, m_L7, m_L19⟩)
              · skip
                refine Kd.R_lit_step (Kd.int .i64) _ 2 (by rfl) (N := 147) rfl (xs := ([D, t1, E'] : List Int)) (inner := [.int .i64 D, .int .i64 t1, .int .i64 E']) (ok := fun _ => True) (okp := fun _ => True) (by first | (go_simp; done) | (go_simp; rfl)) (Reps.one (show Kd.M (Kd.int .i64) _ _ _ (D) [.int .i64 (D)] from rfl) (Reps.one (show Kd.M (Kd.int .i64) _ _ _ (t1) [.int .i64 (t1)] from rfl) (Reps.one (show Kd.M (Kd.int .i64) _ _ _ (E') [.int .i64 (E')] from rfl) (Reps.none _ _)))) (fun _ hk => hk) trivial (Below.refl _ _) (Nat.le_refl _) (by simp) ?_
                intro va wz ho hb hg_ hn_
                obtain ⟨A13, c13, rfl⟩ : ∃ A c, va = .slice A 3 c := Kd.R_slice ho
                have m_L13 : Kd.R (Kd.int .i64) 2 wz u.heap.size (fun _ => True) (.slice A13 3 c13) [D, t1, E'] := Kd.R_lower ho f_B.size
                clear ho hg_ hn_
                have m_B := below_step f_B hb
                have m_G := f_G.below hb
                have m_R := Kd.R_below f_R hb
                have m_T := Kd.R_below f_T hb
                have m_L19 := Kd.R_below f_L19 hb
                refine hK.out _ _ ⟨BoxAt.c1 m_G, (HSX.out _ m_B)⟩ (fun hHeld => ?_)
                clear hK K
                refine norm_ (a' := ?_) ?_ ?_
                rotate_left
                · show Act.put _ (some 147) _ = _
                  simp only [Act.put, List.setIfInBounds_toArray, List.set_cons_zero, List.set_cons_succ, i64_w, i32_w]
                  rfl
                exact norm_ (by simp only [putAll, Act.put, List.setIfInBounds_toArray, List.set_cons_zero, List.set_cons_succ]) (hN_l13_l19 (A13, c13, A19, c19) _ ⟨m_B, m_G, m_R, m_T, m_L13, m_L19⟩)
              · skip
                refine Kd.R_lit_step (Kd.int .i64) _ 2 (by rfl) (N := 157) rfl (xs := ([D, E', F'] : List Int)) (inner := [.int .i64 D, .int .i64 E', .int .i64 F']) (ok := fun _ => True) (okp := fun _ => True) (by first | (go_simp; done) | (go_simp; rfl)) (Reps.one (show Kd.M (Kd.int .i64) _ _ _ (D) [.int .i64 (D)] from rfl) (Reps.one (show Kd.M (Kd.int .i64) _ _ _ (E') [.int .i64 (E')] from rfl) (Reps.one (show Kd.M (Kd.int .i64) _ _ _ (F') [.int .i64 (F')] from rfl) (Reps.none _ _)))) (fun _ hk => hk) trivial (Below.refl _ _) (Nat.le_refl _) (by simp) ?_
                intro va wz ho hb hg_ hn_
                obtain ⟨A23, c23, rfl⟩ : ∃ A c, va = .slice A 3 c := Kd.R_slice ho
                have m_L23 : Kd.R (Kd.int .i64) 2 wz u.heap.size (fun _ => True) (.slice A23 3 c23) [D, E', F'] := Kd.R_lower ho f_B.size
                clear ho hg_ hn_
                have m_B := below_step f_B hb
                have m_G := f_G.below hb
                have m_R := Kd.R_below f_R hb
                have m_T := Kd.R_below f_T hb
                have m_L19 := Kd.R_below f_L19 hb
                refine hK.out _ _ ⟨BoxAt.c1 m_G, (HSX.out _ m_B)⟩ (fun hHeld => ?_)
                clear hK K
                refine norm_ (a' := ?_) ?_ ?_
                rotate_left
                · show Act.put _ (some 157) _ = _
                  simp only [Act.put, List.setIfInBounds_toArray, List.set_cons_zero, List.set_cons_succ, i64_w, i32_w]
                  rfl
                exact norm_ (by simp only [putAll, Act.put, List.setIfInBounds_toArray, List.set_cons_zero, List.set_cons_succ]) (hN_l19_l23 (A19, c19, A23, c23) _ ⟨m_B, m_G, m_R, m_T, m_L19, m_L23⟩)
            intro hN_l19
            refine join_ (σ := Option Addr × Nat) 7 #[true, true, true, true, true, true, true, false, true, true, true, true, true, false, true, true, true, true, true, false, true, true, true, true, false, false, false, false] (fun s_ => [(157, .slice s_.1 3 s_.2)]) (fun s_ w' => (Below u.heap.size u w') ∧ (BoxAt w' h 30 vq vT) ∧ (Kd.R k59 59 w' u.heap.size (fun _ => True) vq ballP) ∧ (Kd.R (Kd.slice 2 (Kd.int .i64)) 34 w' u.heap.size (fun _ => True) vT (fT i)) ∧ (Kd.R (Kd.int .i64) 2 w' u.heap.size (fun _ => True) (.slice s_.1 3 s_.2) [D, E', F'])) ?_ ?_
            · skip
              rintro ⟨A23, c23⟩ wn ⟨f_B, f_G, f_R, f_T, f_L23⟩
              replace f_B : Below u.heap.size u wn := f_B
              replace f_G : BoxAt wn h 30 vq vT := f_G
              replace f_R : Kd.R k59 59 wn u.heap.size (fun _ => True) vq ballP := f_R
              replace f_T : Kd.R (Kd.slice 2 (Kd.int .i64)) 34 wn u.heap.size (fun _ => True) vT (fT i) := f_T
              replace f_L23 : Kd.R (Kd.int .i64) 2 wn u.heap.size (fun _ => True) (.slice A23 3 c23) [D, E', F'] := f_L23
              refine norm_ (a' := ?_) ?_ ?_
              rotate_left
              · simp only [putAll, Act.put, List.setIfInBounds_toArray, List.set_cons_zero, List.set_cons_succ]; rfl
              refine three_ (i := 7) (j := 13) (k := 19) (Ni := (some 141)) (Nj := (some 147)) (Nk := (some 153)) #[true, true, true, true, true, true, true, true, true, true, true, true, true, false, true, true, true, true, true, false, true, true, true, true, false, false, false, false] #[true, true, true, true, true, true, true, false, true, true, true, true, true, true, true, true, true, true, true, false, true, true, true, true, false, false, false, false] #[true, true, true, true, true, true, true, false, true, true, true, true, true, false, true, true, true, true, true, true, true, true, true, true, false, false, false, false] rfl rfl rfl rfl rfl rfl (by kernel_rfl) (by decide) (by decide) (by decide) (fun K hK => ?_) (fun K hK => ?_) (fun K hK => ?_) 
              · skip
                refine Kd.R_lit_step (Kd.int .i64) _ 2 (by rfl) (N := 141) rfl (xs := ([t0, D, F'] : List Int)) (inner := [.int .i64 t0, .int .i64 D, .int .i64 F']) (ok := fun _ => True) (okp := fun _ => True) (by first | (go_simp; done) | (go_simp; rfl)) (Reps.one (show Kd.M (Kd.int .i64) _ _ _ (t0) [.int .i64 (t0)] from rfl) (Reps.one (show Kd.M (Kd.int .i64) _ _ _ (D) [.int .i64 (D)] from rfl) (Reps.one (show Kd.M (Kd.int .i64) _ _ _ (F') [.int .i64 (F')] from rfl) (Reps.none _ _)))) (fun _ hk => hk) trivial (Below.refl _ _) (Nat.le_refl _) (by simp) ?_
                intro va wz ho hb hg_ hn_
                obtain ⟨A7, c7, rfl⟩ : ∃ A c, va = .slice A 3 c := Kd.R_slice ho
                have m_L7 : Kd.R (Kd.int .i64) 2 wz u.heap.size (fun _ => True) (.slice A7 3 c7) [t0, D, F'] := Kd.R_lower ho f_B.size
                clear ho hg_ hn_
                have m_B := below_step f_B hb
                have m_G := f_G.below hb
                have m_R := Kd.R_below f_R hb
                have m_T := Kd.R_below f_T hb
                have m_L23 := Kd.R_below f_L23 hb
                refine hK.out _ _ ⟨BoxAt.c1 m_G, (HSX.out _ m_B)⟩ (fun hHeld => ?_)
                clear hK K
                refine norm_ (a' := ?_) ?_ ?_
                rotate_left
                · show Act.put _ (some 141) _ = _
                  simp only [Act.put, List.setIfInBounds_toArray, List.set_cons_zero, List.set_cons_succ, i64_w, i32_w]
                  rfl
                exact norm_ (by simp only [putAll, Act.put, List.setIfInBounds_toArray, List.set_cons_zero, List.set_cons_succ]) (hN_l7_l23 (A7, c7, A23, c23) _ ⟨m_B, m_G, m_R, m_T, m_L7, m_L23⟩)
              · skip
                refine Kd.R_lit_step (Kd.int .i64) _ 2 (by rfl) (N := 147) rfl (xs := ([D, t1, E'] : List Int)) (inner := [.int .i64 D, .int .i64 t1, .int .i64 E']) (ok := fun _ => True) (okp := fun _ => True) (by first | (go_simp; done) | (go_simp; rfl)) (Reps.one (show Kd.M (Kd.int .i64) _ _ _ (D) [.int .i64 (D)] from rfl) (Reps.one (show Kd.M (Kd.int .i64) _ _ _ (t1) [.int .i64 (t1)] from rfl) (Reps.one (show Kd.M (Kd.int .i64) _ _ _ (E') [.int .i64 (E')] from rfl) (Reps.none _ _)))) (fun _ hk => hk) trivial (Below.refl _ _) (Nat.le_refl _) (by simp) ?_
                intro va wz ho hb hg_ hn_
                obtain ⟨A13, c13, rfl⟩ : ∃ A c, va = .slice A 3 c := Kd.R_slice ho
                have m_L13 : Kd.R (Kd.int .i64) 2 wz u.heap.size (fun _ => True) (.slice A13 3 c13) [D, t1, E'] := Kd.R_lower ho f_B.size
                clear ho hg_ hn_
                have m_B := below_step f_B hb
                have m_G := f_G.below hb
                have m_R := Kd.R_below f_R hb
                have m_T := Kd.R_below f_T hb
                have m_L23 := Kd.R_below f_L23 hb
                refine hK.out _ _ ⟨BoxAt.c1 m_G, (HSX.out _ m_B)⟩ (fun hHeld => ?_)
                clear hK K
                refine norm_ (a' := ?_) ?_ ?_
                rotate_left
                · show Act.put _ (some 147) _ = _
                  simp only [Act.put, List.setIfInBounds_toArray, List.set_cons_zero, List.set_cons_succ, i64_w, i32_w]
                  rfl
                exact norm_ (by simp only [putAll, Act.put, List.setIfInBounds_toArray, List.set_cons_zero, List.set_cons_succ]) (hN_l13_l23 (A13, c13, A23, c23) _ ⟨m_B, m_G, m_R, m_T, m_L13, m_L23⟩)
              · skip
                refine Kd.R_lit_step (Kd.int .i64) _ 2 (by rfl) (N := 153) rfl (xs := ([F', E', t2] : List Int)) (inner := [.int .i64 F', .int .i64 E', .int .i64 t2]) (ok := fun _ => True) (okp := fun _ => True) (by first | (go_simp; done) | (go_simp; rfl)) (Reps.one (show Kd.M (Kd.int .i64) _ _ _ (F') [.int .i64 (F')] from rfl) (Reps.one (show Kd.M (Kd.int .i64) _ _ _ (E') [.int .i64 (E')] from rfl) (Reps.one (show Kd.M (Kd.int .i64) _ _ _ (t2) [.int .i64 (t2)] from rfl) (Reps.none _ _)))) (fun _ hk => hk) trivial (Below.refl _ _) (Nat.le_refl _) (by simp) ?_
                intro va wz ho hb hg_ hn_
                obtain ⟨A19, c19, rfl⟩ : ∃ A c, va = .slice A 3 c := Kd.R_slice ho
                have m_L19 : Kd.R (Kd.int .i64) 2 wz u.heap.size (fun _ => True) (.slice A19 3 c19) [F', E', t2] := Kd.R_lower ho f_B.size
                clear ho hg_ hn_
                have m_B := below_step f_B hb
                have m_G := f_G.below hb
                have m_R := Kd.R_below f_R hb
                have m_T := Kd.R_below f_T hb
                have m_L23 := Kd.R_below f_L23 hb
                refine hK.out _ _ ⟨BoxAt.c1 m_G, (HSX.out _ m_B)⟩ (fun hHeld => ?_)
                clear hK K
                refine norm_ (a' := ?_) ?_ ?_
                rotate_left
                · show Act.put _ (some 153) _ = _
                  simp only [Act.put, List.setIfInBounds_toArray, List.set_cons_zero, List.set_cons_succ, i64_w, i32_w]
                  rfl
                exact norm_ (by simp only [putAll, Act.put, List.setIfInBounds_toArray, List.set_cons_zero, List.set_cons_succ]) (hN_l19_l23 (A19, c19, A23, c23) _ ⟨m_B, m_G, m_R, m_T, m_L19, m_L23⟩)
            intro hN_l23
            refine four_ (i := 7) (j := 13) (k := 19) (m := 23) (Ni := (some 141)) (Nj := (some 147)) (Nk := (some 153)) (Nm := (some 157)) #[true, true, true, true, true, true, true, true, true, true, true, true, true, false, true, true, true, true, true, false, true, true, true, false, false, false, false, false] #[true, true, true, true, true, true, true, false, true, true, true, true, true, true, true, true, true, true, true, false, true, true, true, false, false, false, false, false] #[true, true, true, true, true, true, true, false, true, true, true, true, true, false, true, true, true, true, true, true, true, true, true, false, false, false, false, false] #[true, true, true, true, true, true, true, false, true, true, true, true, true, false, true, true, true, true, true, false, true, true, true, true, false, false, false, false] rfl rfl rfl rfl rfl rfl rfl rfl (by kernel_rfl) (by decide) (by decide) (by decide) (by decide) (fun K hK => ?_) (fun K hK => ?_) (fun K hK => ?_) (fun K hK => ?_) 
            · skip
              refine Kd.R_lit_step (Kd.int .i64) _ 2 (by rfl) (N := 141) rfl (xs := ([t0, D, F'] : List Int)) (inner := [.int .i64 t0, .int .i64 D, .int .i64 F']) (ok := fun _ => True) (okp := fun _ => True) (by first | (go_simp; done) | (go_simp; rfl)) (Reps.one (show Kd.M (Kd.int .i64) _ _ _ (t0) [.int .i64 (t0)] from rfl) (Reps.one (show Kd.M (Kd.int .i64) _ _ _ (D) [.int .i64 (D)] from rfl) (Reps.one (show Kd.M (Kd.int .i64) _ _ _ (F') [.int .i64 (F')] from rfl) (Reps.none _ _)))) (fun _ hk => hk) trivial (Below.refl _ _) (Nat.le_refl _) (by simp) ?_
              intro va wz ho hb hg_ hn_
              obtain ⟨A7, c7, rfl⟩ : ∃ A c, va = .slice A 3 c := Kd.R_slice ho
              have m_L7 : Kd.R (Kd.int .i64) 2 wz u.heap.size (fun _ => True) (.slice A7 3 c7) [t0, D, F'] := Kd.R_lower ho d_B.size
              clear ho hg_ hn_
              have m_B := below_step d_B hb
              have m_G := d_G.below hb
              have m_R := Kd.R_below d_R hb
              have m_T := Kd.R_below d_T hb
              refine hK.out _ _ ⟨BoxAt.c1 m_G, (HSX.out _ m_B)⟩ (fun hHeld => ?_)
              clear hK K
              refine norm_ (a' := ?_) ?_ ?_
              rotate_left
              · show Act.put _ (some 141) _ = _
                simp only [Act.put, List.setIfInBounds_toArray, List.set_cons_zero, List.set_cons_succ, i64_w, i32_w]
                rfl
              exact norm_ (by simp only [putAll, Act.put, List.setIfInBounds_toArray, List.set_cons_zero, List.set_cons_succ]) (hN_l7 (A7, c7) _ ⟨m_B, m_G, m_R, m_T, m_L7⟩)
            · skip
              refine Kd.R_lit_step (Kd.int .i64) _ 2 (by rfl) (N := 147) rfl (xs := ([D, t1, E'] : List Int)) (inner := [.int .i64 D, .int .i64 t1, .int .i64 E']) (ok := fun _ => True) (okp := fun _ => True) (by first | (go_simp; done) | (go_simp; rfl)) (Reps.one (show Kd.M (Kd.int .i64) _ _ _ (D) [.int .i64 (D)] from rfl) (Reps.one (show Kd.M (Kd.int .i64) _ _ _ (t1) [.int .i64 (t1)] from rfl) (Reps.one (show Kd.M (Kd.int .i64) _ _ _ (E') [.int .i64 (E')] from rfl) (Reps.none _ _)))) (fun _ hk => hk) trivial (Below.refl _ _) (Nat.le_refl _) (by simp) ?_
              intro va wz ho hb hg_ hn_
              obtain ⟨A13, c13, rfl⟩ : ∃ A c, va = .slice A 3 c := Kd.R_slice ho
              have m_L13 : Kd.R (Kd.int .i64) 2 wz u.heap.size (fun _ => True) (.slice A13 3 c13) [D, t1, E'] := Kd.R_lower ho d_B.size
              clear ho hg_ hn_
              have m_B := below_step d_B hb
              have m_G := d_G.below hb
              have m_R := Kd.R_below d_R hb
              have m_T := Kd.R_below d_T hb
              refine hK.out _ _ ⟨BoxAt.c1 m_G, (HSX.out _ m_B)⟩ (fun hHeld => ?_)
              clear hK K
              refine norm_ (a' := ?_) ?_ ?_
              rotate_left
              · show Act.put _ (some 147) _ = _
                simp only [Act.put, List.setIfInBounds_toArray, List.set_cons_zero, List.set_cons_succ, i64_w, i32_w]
                rfl
              exact norm_ (by simp only [putAll, Act.put, List.setIfInBounds_toArray, List.set_cons_zero, List.set_cons_succ]) (hN_l13 (A13, c13) _ ⟨m_B, m_G, m_R, m_T, m_L13⟩)
            · skip
              refine Kd.R_lit_step (Kd.int .i64) _ 2 (by rfl) (N := 153) rfl (xs := ([F', E', t2] : List Int)) (inner := [.int .i64 F', .int .i64 E', .int .i64 t2]) (ok := fun _ => True) (okp := fun _ => True) (by first | (go_simp; done) | (go_simp; rfl)) (Reps.one (show Kd.M (Kd.int .i64) _ _ _ (F') [.int .i64 (F')] from rfl) (Reps.one (show Kd.M (Kd.int .i64) _ _ _ (E') [.int .i64 (E')] from rfl) (Reps.one (show Kd.M (Kd.int .i64) _ _ _ (t2) [.int .i64 (t2)] from rfl) (Reps.none _ _)))) (fun _ hk => hk) trivial (Below.refl _ _) (Nat.le_refl _) (by simp) ?_
              intro va wz ho hb hg_ hn_
              obtain ⟨A19, c19, rfl⟩ : ∃ A c, va = .slice A 3 c := Kd.R_slice ho
              have m_L19 : Kd.R (Kd.int .i64) 2 wz u.heap.size (fun _ => True) (.slice A19 3 c19) [F', E', t2] := Kd.R_lower ho d_B.size
              clear ho hg_ hn_
              have m_B := below_step d_B hb
              have m_G := d_G.below hb
              have m_R := Kd.R_below d_R hb
              have m_T := Kd.R_below d_T hb
              refine hK.out _ _ ⟨BoxAt.c1 m_G, (HSX.out _ m_B)⟩ (fun hHeld => ?_)
              clear hK K
              refine norm_ (a' := ?_) ?_ ?_
              rotate_left
              · show Act.put _ (some 153) _ = _
                simp only [Act.put, List.setIfInBounds_toArray, List.set_cons_zero, List.set_cons_succ, i64_w, i32_w]
                rfl
              exact norm_ (by simp only [putAll, Act.put, List.setIfInBounds_toArray, List.set_cons_zero, List.set_cons_succ]) (hN_l19 (A19, c19) _ ⟨m_B, m_G, m_R, m_T, m_L19⟩)
            · skip
              refine Kd.R_lit_step (Kd.int .i64) _ 2 (by rfl) (N := 157) rfl (xs := ([D, E', F'] : List Int)) (inner := [.int .i64 D, .int .i64 E', .int .i64 F']) (ok := fun _ => True) (okp := fun _ => True) (by first | (go_simp; done) | (go_simp; rfl)) (Reps.one (show Kd.M (Kd.int .i64) _ _ _ (D) [.int .i64 (D)] from rfl) (Reps.one (show Kd.M (Kd.int .i64) _ _ _ (E') [.int .i64 (E')] from rfl) (Reps.one (show Kd.M (Kd.int .i64) _ _ _ (F') [.int .i64 (F')] from rfl) (Reps.none _ _)))) (fun _ hk => hk) trivial (Below.refl _ _) (Nat.le_refl _) (by simp) ?_
              intro va wz ho hb hg_ hn_
              obtain ⟨A23, c23, rfl⟩ : ∃ A c, va = .slice A 3 c := Kd.R_slice ho
              have m_L23 : Kd.R (Kd.int .i64) 2 wz u.heap.size (fun _ => True) (.slice A23 3 c23) [D, E', F'] := Kd.R_lower ho d_B.size
              clear ho hg_ hn_
              have m_B := below_step d_B hb
              have m_G := d_G.below hb
              have m_R := Kd.R_below d_R hb
              have m_T := Kd.R_below d_T hb
              refine hK.out _ _ ⟨BoxAt.c1 m_G, (HSX.out _ m_B)⟩ (fun hHeld => ?_)
              clear hK K
              refine norm_ (a' := ?_) ?_ ?_
              rotate_left
              · show Act.put _ (some 157) _ = _
                simp only [Act.put, List.setIfInBounds_toArray, List.set_cons_zero, List.set_cons_succ, i64_w, i32_w]
                rfl
              exact norm_ (by simp only [putAll, Act.put, List.setIfInBounds_toArray, List.set_cons_zero, List.set_cons_succ]) (hN_l23 (A23, c23) _ ⟨m_B, m_G, m_R, m_T, m_L23⟩)
          rintro ⟨A7, c7, A13, c13, A19, c19, A23, c23⟩ wl ⟨f_B, f_G, f_R, f_T, f_L7, f_L13, f_L19, f_L23⟩
          replace f_B : Below u.heap.size u wl := f_B
          replace f_G : BoxAt wl h 30 vq vT := f_G
          replace f_R : Kd.R k59 59 wl u.heap.size (fun _ => True) vq ballP := f_R
          replace f_T : Kd.R (Kd.slice 2 (Kd.int .i64)) 34 wl u.heap.size (fun _ => True) vT (fT i) := f_T
          replace f_L7 : Kd.R (Kd.int .i64) 2 wl u.heap.size (fun _ => True) (.slice A7 3 c7) [t0, D, F'] := f_L7
          replace f_L13 : Kd.R (Kd.int .i64) 2 wl u.heap.size (fun _ => True) (.slice A13 3 c13) [D, t1, E'] := f_L13
          replace f_L19 : Kd.R (Kd.int .i64) 2 wl u.heap.size (fun _ => True) (.slice A19 3 c19) [F', E', t2] := f_L19
          replace f_L23 : Kd.R (Kd.int .i64) 2 wl u.heap.size (fun _ => True) (.slice A23 3 c23) [D, E', F'] := f_L23
          refine norm_ (a' := ?_) ?_ ?_
          rotate_left
          · simp only [putAll, Act.put, List.setIfInBounds_toArray, List.set_cons_zero, List.set_cons_succ]; rfl
          refine one_ (i := 24) (N := (some 158)) #[true, true, true, true, true, true, true, true, true, true, true, true, true, true, true, true, true, true, true, true, true, true, true, true, true, false, false, false] rfl rfl (by kernel_rfl) (by decide) (fun K hK => ?_)
          refine value_ (w1 := ?_) (v := ?_) (by rfl) rfl ?_ ?_
          rotate_left 2
          · go_simp
            constructor
            · rfl
            · rfl
          refine hK.out _ _ ⟨(blk_cell (blk_alloc f_G _) 1), (HSX.out _ (below_step f_B (below_alloc (Below.refl _ _) _)))⟩ (fun hHeld => ?_)
          clear hK K
          refine norm_ (a' := ?_) ?_ ?_
          rotate_left
          · show Act.put _ (some 158) _ = _
            simp only [Act.put, List.setIfInBounds_toArray, List.set_cons_zero, List.set_cons_succ, i64_w, i32_w]
            rfl
          refine one_ (i := 25) (N := (some 159)) #[true, true, true, true, true, true, true, true, true, true, true, true, true, true, true, true, true, true, true, true, true, true, true, true, true, true, false, false] rfl rfl (by kernel_rfl) (by decide) (fun K hK => ?_)
          obtain ⟨wm, hwm⟩ : ∃ W, W = wl.alloc (.cells #[.slice A7 3 c7, .slice A13 3 c13, .slice A19 3 c19, .slice A23 3 c23] 34) := ⟨_, rfl⟩
          have hm : wm.heap[wl.heap.size]? = some (.cells #[.slice A7 3 c7, .slice A13 3 c13, .slice A19 3 c19, .slice A23 3 c23] 34 (0, 0)) := by rw [hwm]; exact heap_alloc_new _ _
          have hb : Below wl.heap.size wl wm := by rw [hwm]; exact below_alloc (Below.refl _ _) _
          rw [← hwm]
          clear hwm
          have g_B := below_step f_B hb; have g_G := BoxAt.below f_G hb; have g_R := Kd.R_below f_R hb; have g_T := Kd.R_below f_T hb; have g_L7 := Kd.R_below f_L7 hb; have g_L13 := Kd.R_below f_L13 hb; have g_L19 := Kd.R_below f_L19 hb; have g_L23 := Kd.R_below f_L23 hb
          clear f_B f_G f_R f_T hb f_L7 f_L13 f_L19 f_L23
          refine Kd.R_append_rows_step (Kd.slice 2 (Kd.int .i64)) (Rr := Kd.M (Kd.slice 2 (Kd.int .i64)) wm u.heap.size (fun k => some k ≠ vT.ownBlock)) (w0 := u) u.heap.size (by rfl) (.tmp 135) (.tmp 158) 23 34 (.slice none 0 0) 24 rfl Try.underlying23 info34 rfl (by decide) (by omega) vT (fT i) [[t0, D, F'], [D, t1, E'], [F', E', t2], [D, E', F']] (some ⟨wl.heap.size, 0, none⟩) 4 4 (fun _ => True) (fun k => some k ≠ vT.ownBlock) rfl rfl g_T (reads4 hm (Kd.M_row (Kd.R_mono (ok' := fun k_ => some k_ ≠ vT.ownBlock) (Kd.R_apart' g_L7 (Kd.R_typed g_T) (by decide)) (fun k_ hk => hk.2))) (Kd.M_row (Kd.R_mono (ok' := fun k_ => some k_ ≠ vT.ownBlock) (Kd.R_apart' g_L13 (Kd.R_typed g_T) (by decide)) (fun k_ hk => hk.2))) (Kd.M_row (Kd.R_mono (ok' := fun k_ => some k_ ≠ vT.ownBlock) (Kd.R_apart' g_L19 (Kd.R_typed g_T) (by decide)) (fun k_ hk => hk.2))) (Kd.M_row (Kd.R_mono (ok' := fun k_ => some k_ ≠ vT.ownBlock) (Kd.R_apart' g_L23 (Kd.R_typed g_T) (by decide)) (fun k_ hk => hk.2)))) (fun _ _ h => h) (fun k hk => ⟨trivial, hk⟩) (fun _ _ => trivial) g_B g_B.size (by have := hlf.out; omega) ?_
          intro v1_ wi ho hb hg_ hat
          have i_G := blk_grown g_G hg_ (Kd.R_ne g_T g_G (by decide))
          have i_R := Kd.R_over' g_R (Kd.R_typed g_T) (by decide) hg_
          rw [← HST.out] at ho
          obtain ⟨l2, hl2⟩ : ∃ l2, l2 = fT (i + 1) := ⟨_, rfl⟩
          have HL2 := Lib.hid hl2
          rw [← hl2] at ho
          obtain ⟨Av, cv, rfl⟩ := Kd.R_slice ho
          have i_T := ho
          have i_B := hb
          clear ho hb hg_ hat hl2 hm g_B g_G g_R g_T HST g_L7 g_L13 g_L19 g_L23
          refine hK.out _ _ ⟨BoxAt.c1 i_G, (HSX.out _ i_B)⟩ (fun hHeld => ?_)
          clear hK K
          refine norm_ (a' := ?_) ?_ ?_
          rotate_left
          · show Act.put _ (some 159) _ = _
            simp only [Act.put, List.setIfInBounds_toArray, List.set_cons_zero, List.set_cons_succ, i64_w, i32_w]
            rfl
          refine pure_ (i := 26) (N := (some 160)) (v := ?_) (a' := ?_) #[true, true, true, true, true, true, true, true, true, true, true, true, true, true, true, true, true, true, true, true, true, true, true, true, true, true, true, false] rfl rfl (by kernel_rfl) (fun _ _ _ h => h) (Or.inl ⟨by rfl, ?_⟩) ?_ ?_
          rotate_left
          · intro w'
            go_simp
            with_reducible rfl
          rotate_left
          · simp only [Act.put, List.setIfInBounds_toArray, List.set_cons_zero, List.set_cons_succ, i64_w, i32_w]; rfl
          refine last_ (i := 27) (N := none) #[true, true, true, true, true, true, true, true, true, true, true, true, true, true, true, true, true, true, true, true, true, true, true, true, true, true, true, true] rfl rfl (by kernel_rfl) (by decide) (fun K hK => ?_)
          have t0_ := BoxAt.c1 i_G; have y0_ := blk_frozen i_G 1
          refine skip_ (w1 := ?_) (by rfl) rfl ?_ ?_
          rotate_left
          · go_simp
            rfl
          refine hK.out _ _ ?_
          clear hK K
          clear t0_ y0_
          refine done_ (by kernel_rfl) ?_
          obtain ⟨wj, hwj⟩ : ∃ W, W = wi.setCell ⟨h, 1, none⟩ (.slice Av l2.length cv) := ⟨_, rfl⟩
          rw [← hwj]
          have EB := Lib.hid (show Below u.heap.size u wj by rw [hwj]; exact below_set i_B hu)
          have EG := Lib.hid (show BoxAt wj h 30 vq (.slice Av l2.length cv) by rw [hwj]; exact blk_put i_G 1 _ rfl)
          have ER := Lib.hid (show Kd.R k59 59 wj u.heap.size (fun _ => True) vq ballP by rw [hwj]; exact R_boxset i_R i_G (by decide) 1 _)
          have ET := Lib.hid (show Kd.R (Kd.slice 2 (Kd.int .i64)) 34 wj u.heap.size (fun _ => True) (.slice Av l2.length cv) l2 by rw [hwj]; exact R_boxset i_T i_G (by decide) 1 _)
          clear hwj i_B i_G i_R i_T HSX HD HE HF
          go_wp2_with fail
          exact ⟨⟨i + 1, _, hlt, by simp, EB, EG, ER, by rw [← HL2.out]; exact ET⟩, by simp [intOf]; omega⟩
        · obtain rfl : i = 8 := by omega
          rw [fT_all] at HT
          obtain ⟨Av, cv, rfl⟩ : ∃ A c, vq = .slice A 18 c := Kd.R_slice HR.out
          obtain ⟨Aw, cw, rfl⟩ : ∃ A c, vT = .slice A 32 c := Kd.R_slice HT.out
          have hF := FU.out.below HB.out
          have gc0 := HG.out.c0
          have gc1 := HG.out.c1
          have f0 := hF.c0
          have f1 := hF.c1
          have z0 := blk_frozen hF 0
          have z1 := blk_frozen hF 1
          have HFF := Lib.hid hF
          clear hF
          go_wp2_with fail
          ((try simp only [Exit.inBlock, Exit.then]); refine bodyPost_ret (by simp [results, Try.results70, go_sem, f0, f1, setCell_same_of, World.cell?_setCell_other]; try rfl) rfl ?_)
          have pR := R_boxset (R_boxset (Kd.R_lower HR.out BU.out.size) HFF.out (by decide) 0 (.slice Av 18 cv)) (blk_put HFF.out 0 (.slice Av 18 cv) rfl) (by decide) 1 (.slice Aw 32 cw)
          have tR := R_boxset (R_boxset (Kd.R_lower HT.out BU.out.size) HFF.out (by decide) 0 (.slice Av 18 cv)) (blk_put HFF.out 0 (.slice Av 18 cv) rfl) (by decide) 1 (.slice Aw 32 cw)
          have hBB := below_step BU.out HB.out
          exact ⟨Av, cv, Aw, cw, rfl, ⟨R_in pR, Kd.R_N (R_in tR)⟩, below_set (below_set hBB (Nat.le_refl _)) (Nat.le_refl _)⟩

end Go.Proofs.Ytnibobbfepdeiaa
namespace Go.Proofs.Ytnibobbfepdeiaa
open Fl Go.RowKit Go.Proofs.YtnibobbfepdeiaaW.PrintWords Go.Proofs.YtnibobbfepdeiaaW.PrintLast Go.Proofs.YtnibobbfepdeiaaW.PrintMore Go.Proofs.Ytnibobbfepdeiaa.PMesh Msh
set_option linter.unusedVariables false
set_option linter.unusedSimpArgs false

end Go.Proofs.Ytnibobbfepdeiaa
namespace Go.Proofs.Ytnibobbfepdeiaa
open Fl Go.RowKit Go.Proofs.YtnibobbfepdeiaaW.PrintWords Go.Proofs.YtnibobbfepdeiaaW.PrintLast Go.Proofs.YtnibobbfepdeiaaW.PrintMore Go.Proofs.Ytnibobbfepdeiaa.PMesh Msh
set_option linter.unusedVariables false
set_option linter.unusedSimpArgs false

set_option maxHeartbeats 4000000 in
set_option maxRecDepth 100000 in
theorem spec_l02Grid (W H v : Nat) (wide high : Int) (HWI : Hid (wide = (W : Int))) (HHI : Hid (high = (H : Int))) (W64 : W ≤ 64) (H64 : H ≤ 64) (w : World) :
    Calls Try.prog 68 #[.int .i64 wide, .int .i64 high, .float .f32 v] w (AnsG w (gridP W H v) (gridT W H)) := by
  have B0 := Lib.hid (below_alloc (Below.refl w.heap.size w) (.cells #[.slice none 0 0, .slice none 0 0] 30))
  have F0 := Lib.hid (BoxAt.new w 30 (.slice none 0 0) (.slice none 0 0))
  have ew : wrap64 (wide + 1) = wide + 1 := by have := HWI.out; exact Msh.wrap_fit (by omega) (by omega)
  have hw2 : wide ≤ 64 := by rw [HWI.out]; omega
  have hw1 : 0 ≤ wide := by rw [HWI.out]; omega
  go_enter Try.func68, Try.ntmps68
  go_wp2_with (first
    | ((with_reducible refine gate_dst (N := 14) rfl ?_); refine Kd.R_lit k59 _ 59 ?hg (N := 14) ?hd (xs := ([] : List S59)) (inner := []) (ok := fun _ => True) (okp := fun _ => True) ?hr ?hp (fun _ hk => hk) trivial (Below.refl _ _) (Nat.le_refl _) (by simp) ?_; (case hd => rfl); (case hg => rfl); (case hr => first | (go_simp; done) | (go_simp; rfl)); (case hp => exact (Reps.none _ _)); intro vu w2 ho hb hg_ hnew_; clear hg_ hnew_; obtain ⟨A4, c4, rfl⟩ := Kd.R_slice ho; have B2 := Lib.hid (below_step B0.out hb); have F2 := Lib.hid (F0.out.below hb); have Q2 := Lib.hid (Kd.R_lower ho (below_size B0.out)); clear ho hb)
    | ((with_reducible refine gate_dst (N := 15) rfl ?_); refine Kd.S_lit (Kd.slice 2 (Kd.int .i64)) _ 34 ?hg (N := 15) ?hd (xs := ([] : List (List Int))) (inner := []) (ok := fun _ => True) (okp := fun _ => True) ?hr ?hp (fun _ hk => hk) trivial (Below.refl _ _) (Nat.le_refl _) (by simp) ?_; (case hd => rfl); (case hg => rfl); (case hr => first | (go_simp; done) | (go_simp; rfl)); (case hp => exact (Reps.none _ _)); intro vt w4 ho hb hg_ hnew_; clear hg_ hnew_; obtain ⟨A5, c5, rfl⟩ := Kd.S_slice ho; have B4 := Lib.hid (below_step B2.out hb); have F4 := Lib.hid (F2.out.below hb); have Q4 := Lib.hid (Kd.R_below Q2.out hb); have T4 := Lib.hid (Kd.S_lower ho (below_size B2.out)); clear ho hb)
    | fail)
  have hgl := F4.out.lt
  obtain ⟨wA, hwA⟩ : ∃ W', W' = w4.alloc (.cells #[.slice A4 0 c4, .slice A5 0 c5] 30) := ⟨_, rfl⟩
  have hvA : Below w4.heap.size w4 wA := by rw [hwA]; exact below_alloc (Below.refl _ _) _
  have BA := Lib.hid (below_step B4.out hvA)
  have FA := Lib.hid (F4.out.below hvA)
  have GA := Lib.hid (show BoxAt wA w4.heap.size 30 (.slice A4 0 c4) (.slice A5 0 c5) by rw [hwA]; exact BoxAt.new w4 30 _ _)
  have QA := Lib.hid (Kd.R_below Q4.out hvA)
  have TA := Lib.hid (Kd.S_below T4.out hvA)
  rw [← hwA]
  clear hwA hvA B2 F2 Q2 B4 F4 Q4 T4 B0 F0
  generalize w4.heap.size = g at *
  go_loopw [8] (fun k wr => ∃ (y : Nat) (yi : Int) (u : Value) (l : List S59), y ≤ H + 1 ∧ k = .int .i64 yi ∧ Hid (yi = (y : Int)) ∧ Hid (Below w.heap.size w wr) ∧ Hid (BoxAt wr (w.heap.size) 30 (.slice none 0 0) (.slice none 0 0)) ∧ Hid (BoxAt wr g 30 u (.slice A5 0 c5)) ∧ Hid (PL v (W + 1) (y * (W + 1)) l) ∧ Hid (Kd.R k59 59 wr w.heap.size (fun _ => True) u l) ∧ Hid (Kd.S (Kd.slice 2 (Kd.int .i64)) 34 wr w.heap.size (fun _ => True) (.slice A5 0 c5) [])) (fun k _ => (H + 1) - (intOf k).toNat)
  case atStart => exact ⟨0, 0, _, [], Nat.zero_le _, rfl, Lib.hid rfl, BA, FA, GA, Lib.hid (by rw [Nat.zero_mul]; exact PL.zero _ _), QA, TA⟩
  case round =>
    clear BA FA GA QA TA
    obtain ⟨y, yi, u, l, hy, rfl, HYI, HB, HF, HG, HP, HR, HS⟩ := hrel
    by_cases hlt : y < H + 1
    · have y1 : yi < high + 1 := by rw [HYI.out, HHI.out]; omega
      have y2 : yi ≤ high := by rw [HYI.out, HHI.out]; omega
      have y3 : yi < 9223372036854775807 := by rw [HYI.out]; omega
      have y4 : (0 : Int) ≤ yi := by rw [HYI.out]; omega
      go_wp2_with fail
      go_loopw [9] (fun k wr => ∃ (x : Nat) (xi : Int) (u : Value) (l : List S59), x ≤ W + 1 ∧ k = .int .i64 xi ∧ Hid (xi = (x : Int)) ∧ Hid (Below w.heap.size w wr) ∧ Hid (BoxAt wr (w.heap.size) 30 (.slice none 0 0) (.slice none 0 0)) ∧ Hid (BoxAt wr g 30 u (.slice A5 0 c5)) ∧ Hid (PL v (W + 1) (y * (W + 1) + x) l) ∧ Hid (Kd.R k59 59 wr w.heap.size (fun _ => True) u l) ∧ Hid (Kd.S (Kd.slice 2 (Kd.int .i64)) 34 wr w.heap.size (fun _ => True) (.slice A5 0 c5) [])) (fun k _ => (W + 1) - (intOf k).toNat)
      case atStart => exact ⟨0, 0, u, l, Nat.zero_le _, rfl, Lib.hid rfl, HB, HF, HG, HP, HR, HS⟩
      case round =>
        clear HB HF HG HP HR HS
        obtain ⟨x, xi, u, l, hx, rfl, HXI, HB, HF, HG, HP, HR, HS⟩ := hrel
        by_cases hxlt : x < W + 1
        · have x1 : xi < wide + 1 := by rw [HXI.out, HWI.out]; omega
          have x2 : xi ≤ wide := by rw [HXI.out, HWI.out]; omega
          have x3 : xi < 9223372036854775807 := by rw [HXI.out]; omega
          have x4 : (0 : Int) ≤ xi := by rw [HXI.out]; omega
          have hg0 := HG.out.c0
          have hll : Hid (l.length ≤ 16384) := Lib.hid (by rw [HP.out.len]; have := Nat.mul_le_mul_right (W + 1) (show y ≤ 64 by omega); omega)
          go_wp2_with (first
            | (refine wpList_fbin (o := ⟨some 32, _, _, _, _, _⟩) rfl _ _ _ _ _ rfl (by decide) _ _ _ rfl rfl ?_; intro p np hp)
            | (refine wpList_fbin (o := ⟨some 36, _, _, _, _, _⟩) rfl _ _ _ _ _ rfl (by decide) _ _ _ rfl rfl ?_; intro q nq hq)
            | ((with_reducible refine gate_builtin (b := .append) (xs := #[.tmp 28, .tmp 38]) rfl ?_); at_builtin; refine Kd.R_append k59 (w0 := w) w.heap.size rfl (.tmp 28) (.tmp 38) 28 59 (.agg #[(.float .f32 0), (.float .f32 0), (.float .f32 0)]) 12 rfl Try.underlying28 info59 rfl (by decide) (by omega) u l ⟨p, q, 0⟩ [.float .f32 p, .float .f32 q, .float .f32 0] (fun _ => True) (fun _ => False) rfl (by first | (go_simp; done) | (go_simp; rfl)) ?aP (fun _ hk => hk.elim) ?aF ?aO ?aB ?aS ?aL ?_; (case aP => exact k59_mkM _ _ _ _); (case aB => exact pw_below_drewN HB.out _); (case aF => exact (fun _ _ => trivial)); (case aO => exact Kd.R_drewN HR.out _); (case aS => exact below_size (pw_below_drewN HB.out _)); (case aL => have := hll.out; omega); intro v1 w1 ho hb hg_ hat
               have hW : Below wr.heap.size wr (wr.drewN (np + nq)) := pw_below_drewN (Below.refl _ _) _
               have hG1 : BoxAt w1 g 30 u (.slice A5 0 c5) := blk_grown (HG.out.below hW) hg_ (Kd.R_ne HR.out HG.out (by decide))
               have F1 := Lib.hid (show BoxAt w1 (w.heap.size) 30 (.slice none 0 0) (.slice none 0 0) from blk_grown (HF.out.below hW) hg_ (Kd.R_ne HR.out HF.out (by decide)))
               have S1 := Lib.hid (Kd.S_over' (Kd.S_below HS.out hW) (Kd.R_typed (Kd.R_below HR.out hW)) (by decide) hg_)
               rw [HXI.out] at hp; rw [HYI.out] at hq; have hp1 := HP.out.step hxlt hp hq; obtain ⟨l2, hl2⟩ : ∃ l2, l2 = l ++ [(⟨p, q, 0⟩ : S59)] := ⟨_, rfl⟩; rw [← hl2] at ho hp1; obtain ⟨Av, cv, rfl⟩ := Kd.R_slice ho; have G1 := Lib.hid hG1; have R1 := Lib.hid ho; have B1 := Lib.hid hb; have P1 := Lib.hid hp1; have gs0 := hG1.c0; have gz0 := blk_frozen hG1 0; clear ho hb hg_ hat hW hG1 hg0 hp hq hp1 hl2)
            | fail)
          exact ⟨⟨x + 1, xi + 1, _, _, hxlt, by simp, Lib.hid (by rw [HXI.out]; omega), Lib.hid (below_set B1.out (by omega)), Lib.hid (blk_far F1.out (by show w.heap.size ≠ g; omega) _), Lib.hid (blk_put G1.out 0 _ rfl), P1, Lib.hid (R_boxset R1.out G1.out (by decide) 0 _), Lib.hid (Kd.S_set S1.out G1.out (by decide) 0 _)⟩, by have h1_ := HXI.out; simp [intOf]; omega⟩
        · obtain rfl : x = W + 1 := by omega
          have x1 : ¬ (xi < wide + 1) := by rw [HXI.out, HWI.out]; omega
          have x2 : ¬ (xi ≤ wide) := by rw [HXI.out, HWI.out]; omega
          go_wp2_with fail
          exact ⟨⟨y + 1, yi + 1, u, l, hlt, by simp, Lib.hid (by rw [HYI.out]; omega), HB, HF, HG, Lib.hid HP.out.row, HR, HS⟩, by have h1_ := HYI.out; simp [intOf]; omega⟩
    · obtain rfl : y = H + 1 := by omega
      have y1 : ¬ (yi < high + 1) := by rw [HYI.out, HHI.out]; omega
      have y2 : ¬ (yi ≤ high) := by rw [HYI.out, HHI.out]; omega
      go_wp2_with fail
      clear y1 y2 hlt hy
      go_loopw [10] (fun k wr => ∃ (y : Nat) (yi : Int) (vt : Value), y ≤ H ∧ k = .int .i64 yi ∧ Hid (yi = (y : Int)) ∧ Hid (Below w.heap.size w wr) ∧ Hid (BoxAt wr (w.heap.size) 30 (.slice none 0 0) (.slice none 0 0)) ∧ Hid (BoxAt wr g 30 u vt) ∧ Hid (Kd.R k59 59 wr w.heap.size (fun _ => True) u l) ∧ Hid (Kd.S (Kd.slice 2 (Kd.int .i64)) 34 wr w.heap.size (fun _ => True) vt (gridTn W (y * W)))) (fun k _ => H - (intOf k).toNat)
      case atStart => exact ⟨0, 0, _, Nat.zero_le _, rfl, Lib.hid rfl, HB, HF, HG, HR, Lib.hid (by rw [Nat.zero_mul]; exact HS.out)⟩
      case round =>
        clear HB HF HG HR HS
        obtain ⟨y, yi, vt, hy, rfl, HYI, HB, HF, HG, HR, HS⟩ := hrel
        by_cases hlt : y < H
        · have y1 : yi < high := by rw [HYI.out, HHI.out]; omega
          have y3 : yi < 9223372036854775807 := by rw [HYI.out]; omega
          have y4 : (0 : Int) ≤ yi := by rw [HYI.out]; omega
          go_wp2_with fail
          go_loopw [11] (fun k wr => ∃ (x : Nat) (xi : Int) (vt : Value), x ≤ W ∧ k = .int .i64 xi ∧ Hid (xi = (x : Int)) ∧ Hid (Below w.heap.size w wr) ∧ Hid (BoxAt wr (w.heap.size) 30 (.slice none 0 0) (.slice none 0 0)) ∧ Hid (BoxAt wr g 30 u vt) ∧ Hid (Kd.R k59 59 wr w.heap.size (fun _ => True) u l) ∧ Hid (Kd.S (Kd.slice 2 (Kd.int .i64)) 34 wr w.heap.size (fun _ => True) vt (gridTn W (y * W + x)))) (fun k _ => W - (intOf k).toNat)
          case atStart => exact ⟨0, 0, vt, Nat.zero_le _, rfl, Lib.hid rfl, HB, HF, HG, HR, HS⟩
          case round =>
            clear HB HF HG HR HS
            obtain ⟨x, xi, vt, hx, rfl, HXI, HB, HF, HG, HR, HS⟩ := hrel
            by_cases hxlt : x < W
            · have x1 : xi < wide := by rw [HXI.out, HWI.out]; omega
              have x3 : xi < 9223372036854775807 := by rw [HXI.out]; omega
              have x4 : (0 : Int) ≤ xi := by rw [HXI.out]; omega
              have hg1 := HG.out.c1
              have hq1 : (wide + 1) * yi ≤ 65 * 64 := by rw [HWI.out, HYI.out, show ((W : Int) + 1) * (y : Int) = (((W + 1) * y : Nat) : Int) by push_cast; rfl]; show _ ≤ ((65 * 64 : Nat) : Int); exact Int.ofNat_le.2 (Nat.mul_le_mul (by omega) (by omega))
              have hq0 : 0 ≤ (wide + 1) * yi := by rw [HWI.out, HYI.out, show ((W : Int) + 1) * (y : Int) = (((W + 1) * y : Nat) : Int) by push_cast; rfl]; exact Int.natCast_nonneg _
              obtain ⟨m, hm⟩ : ∃ m, m = (wide + 1) * yi := ⟨_, rfl⟩
              rw [← hm] at hq1 hq0
              have ew1 : wrap64 (wide + 1) = wide + 1 := Msh.wrap_fit (by omega) (by omega)
              have ew3 : wrap64 (xi + m) = xi + m := Msh.wrap_fit (by omega) (by omega)
              have ei1 : wrap64 (xi + m + 1) = xi + m + 1 := Msh.wrap_fit (by omega) (by omega)
              have ei2 : wrap64 (xi + m + wide) = xi + m + wide := Msh.wrap_fit (by omega) (by omega)
              have ei3 : wrap64 (xi + m + wide + 1) = xi + m + wide + 1 := Msh.wrap_fit (by omega) (by omega)
              have ei4 : wrap64 (xi + m + wide + 1 + 1) = xi + m + wide + 1 + 1 := Msh.wrap_fit (by omega) (by omega)
              have ew2 : wrap64 ((wide + 1) * yi) = m := by rw [← hm]; exact Msh.wrap_fit (by omega) (by omega)
              have hTA : triA W x y = [xi + m, xi + m + 1, xi + m + wide + 1 + 1] := by rw [hm, HXI.out, HYI.out, HWI.out]; rfl
              have hTC : triC W x y = [xi + m, xi + m + wide + 1 + 1, xi + m + wide + 1] := by rw [hm, HXI.out, HYI.out, HWI.out]; rfl
              have hts := gridTn_step W x y hxlt
              rw [hTA, hTC] at hts
              have HTS := Lib.hid hts
              have hll : Hid ((gridTn W (y * W + x)).length ≤ 16384) := Lib.hid (by rw [gridTn_len]; have := Nat.mul_le_mul_right W (show y ≤ 64 by omega); omega)
              clear hts hTA hTC hm
              go_wp2_with (first
                | ((with_reducible refine gate_dst (N := 68) rfl ?_); refine Kd.R_lit (Kd.int .i64) _ 2 ?hg (N := 68) ?hd (xs := ([xi + m, xi + m + 1, xi + m + wide + 1 + 1] : List Int)) (inner := [.int .i64 (xi + m), .int .i64 (xi + m + 1), .int .i64 (xi + m + wide + 1 + 1)]) (ok := fun _ => True) (okp := fun _ => True) ?hr ?hp (fun _ hk => hk) trivial (Below.refl _ _) (Nat.le_refl _) (by simp) ?_; (case hd => rfl); (case hg => rfl); (case hr => first | (go_simp; done) | (go_simp; rfl)); (case hp => exact (Reps.one (show Kd.M (Kd.int .i64) _ _ _ (xi + m) [.int .i64 (xi + m)] from rfl) (Reps.one (show Kd.M (Kd.int .i64) _ _ _ (xi + m + 1) [.int .i64 (xi + m + 1)] from rfl) (Reps.one (show Kd.M (Kd.int .i64) _ _ _ (xi + m + wide + 1 + 1) [.int .i64 (xi + m + wide + 1 + 1)] from rfl) (Reps.none _ _))))); intro va w2 ho hb hg_ hnew_; clear hg_ hnew_; obtain ⟨Aa, ca, rfl⟩ := Kd.R_slice ho; have B2 := Lib.hid (below_step HB.out hb); have F2 := Lib.hid (HF.out.below hb); have G2 := Lib.hid (HG.out.below hb); have R2 := Lib.hid (Kd.R_below HR.out hb); have S2 := Lib.hid (Kd.S_elder' HS.out (Kd.R_base ho) hb); have L2 := Lib.hid (Kd.R_lower ho (below_size HB.out)); have LB2 := Lib.hid (Kd.R_bound ho); clear ho hb hg1)
                | ((with_reducible refine gate_dst (N := 73) rfl ?_); refine Kd.R_lit (Kd.int .i64) _ 2 ?hg (N := 73) ?hd (xs := ([xi + m, xi + m + wide + 1 + 1, xi + m + wide + 1] : List Int)) (inner := [.int .i64 (xi + m), .int .i64 (xi + m + wide + 1 + 1), .int .i64 (xi + m + wide + 1)]) (ok := fun _ => True) (okp := fun _ => True) ?hr ?hp (fun _ hk => hk) trivial (Below.refl _ _) (Nat.le_refl _) (by simp) ?_; (case hd => rfl); (case hg => rfl); (case hr => first | (go_simp; done) | (go_simp; rfl)); (case hp => exact (Reps.one (show Kd.M (Kd.int .i64) _ _ _ (xi + m) [.int .i64 (xi + m)] from rfl) (Reps.one (show Kd.M (Kd.int .i64) _ _ _ (xi + m + wide + 1 + 1) [.int .i64 (xi + m + wide + 1 + 1)] from rfl) (Reps.one (show Kd.M (Kd.int .i64) _ _ _ (xi + m + wide + 1) [.int .i64 (xi + m + wide + 1)] from rfl) (Reps.none _ _))))); intro vc w3 ho hb hg_ hnew_; clear hg_ hnew_; obtain ⟨Ac, cc, rfl⟩ := Kd.R_slice ho; have B3 := Lib.hid (below_step B2.out hb); have F3 := Lib.hid (F2.out.below hb); have G3 := Lib.hid (G2.out.below hb); have R3 := Lib.hid (Kd.R_below R2.out hb); have S3 := Lib.hid (Kd.S_elder' S2.out (Kd.R_base ho) hb); have L3 := Lib.hid (Kd.R_below L2.out hb); have M3 := Lib.hid (Kd.R_lower ho (below_size B2.out)); have D3 := Lib.hid (show ∀ k, some k = (Value.slice Aa 3 ca).ownBlock → ¬ some k = (Value.slice Ac 3 cc).ownBlock from fun k h1 h2 => by have := (LB2.out.1 k h1.symm).2.2.1; have := Kd.R_base ho k h2.symm; omega); clear ho hb)
                | ((with_reducible refine gate_builtin (b := .append) (xs := #[.tmp 62, .tmp 74]) rfl ?_); at_builtin; refine S_append2 (Kd.slice 2 (Kd.int .i64)) rfl (w0 := w) w.heap.size rfl (.tmp 62) (.tmp 74) 23 34 (.slice none 0 0) 24 rfl Try.underlying23 info34 rfl (by omega) vt (gridTn W (y * W + x)) [xi + m, xi + m + 1, xi + m + wide + 1 + 1] [xi + m, xi + m + wide + 1 + 1, xi + m + wide + 1] (.slice Aa 3 ca) (.slice Ac 3 cc) w3.heap.size (fun _ => True) (fun k_ => some k_ = (.slice Aa 3 ca : Value).ownBlock) (fun k_ => some k_ = (.slice Ac 3 cc : Value).ownBlock) rfl (by first | (go_simp; done) | (go_simp; rfl)) ?aC ?aD ?aP ?aQ ?aN ?aM D3.out ?aF ?aO ?aB ?aS ?aL ?_
                   (case aC => exact (blk_cell (heap_alloc_new w3 (.cells #[.slice Aa 3 ca, .slice Ac 3 cc] 34)) 0).trans rfl); (case aD => exact (blk_cell (heap_alloc_new w3 (.cells #[.slice Aa 3 ca, .slice Ac 3 cc] 34)) 1).trans rfl)
                   (case aP => exact Kd.M_row (Kd.R_alloc (Kd.R_mono (Kd.R_tight rfl (Kd.R_mono (ok' := fun k_ => ((fun _ => True)) k_ ∧ some k_ ≠ (vt : Value).ownBlock) (Kd.R_apart' (L3.out) (Kd.S_typed S3.out) (by decide)) (fun k_ hk => ⟨trivial, hk.2⟩))) (fun _ h_ => h_)) (.cells #[.slice Aa 3 ca, .slice Ac 3 cc] 34))); (case aQ => exact Kd.M_row (Kd.R_alloc (Kd.R_mono (Kd.R_tight rfl (Kd.R_mono (ok' := fun k_ => ((fun _ => True)) k_ ∧ some k_ ≠ (vt : Value).ownBlock) (Kd.R_apart' (M3.out) (Kd.S_typed S3.out) (by decide)) (fun k_ hk => ⟨trivial, hk.2⟩))) (fun _ h_ => h_)) (.cells #[.slice Aa 3 ca, .slice Ac 3 cc] 34)))
                   (case aN => exact fun k_ hk_ => ((Kd.R_mono (ok' := fun k_ => ((fun _ => True)) k_ ∧ some k_ ≠ (vt : Value).ownBlock) (Kd.R_apart' (L3.out) (Kd.S_typed S3.out) (by decide)) (fun k_ hk => ⟨trivial, hk.2⟩))).1 k_ hk_.symm); (case aM => exact fun k_ hk_ => ((Kd.R_mono (ok' := fun k_ => ((fun _ => True)) k_ ∧ some k_ ≠ (vt : Value).ownBlock) (Kd.R_apart' (M3.out) (Kd.S_typed S3.out) (by decide)) (fun k_ hk => ⟨trivial, hk.2⟩))).1 k_ hk_.symm)
                   (case aF => exact (fun _ _ => trivial)); (case aB => exact below_alloc B3.out (.cells #[.slice Aa 3 ca, .slice Ac 3 cc] 34)); (case aS => exact Nat.le_trans (below_size B3.out) (Nat.le_of_lt (blk_lt (heap_alloc_new w3 (.cells #[.slice Aa 3 ca, .slice Ac 3 cc] 34))))); (case aL => have := hll.out; omega)
                   (case aO => exact Kd.S_alloc (Kd.S_mono S3.out (fun k_ hk => ⟨trivial, fun e_ => hk.1.2 e_, fun e_ => hk.2 e_⟩)) (.cells #[.slice Aa 3 ca, .slice Ac 3 cc] 34))
                   intro v1 w4 ho hb hg_ hat
                   have hW : Below w3.heap.size w3 (w3.alloc (.cells #[.slice Aa 3 ca, .slice Ac 3 cc] 34)) := below_alloc (Below.refl _ _) _
                   have hG4 : BoxAt w4 g 30 u vt := blk_grown (G3.out.below hW) hg_ (Kd.S_ne S3.out G3.out (by decide))
                   have F4 := Lib.hid (show BoxAt w4 (w.heap.size) 30 (.slice none 0 0) (.slice none 0 0) from blk_grown (F3.out.below hW) hg_ (Kd.S_ne S3.out F3.out (by decide)))
                   have R4 := Lib.hid (Kd.R_over' (Kd.R_below R3.out hW) (Kd.S_typed (Kd.S_below S3.out hW)) (by decide) hg_)
                   rw [← HTS.out] at ho
                   obtain ⟨Av, cv, rfl⟩ := Kd.S_slice ho
                   have G4 := Lib.hid hG4; have S4 := Lib.hid ho; have B4 := Lib.hid hb; have gs1 := hG4.c1; have gz1 := blk_frozen hG4 1; clear ho hb hg_ hat hW hG4)
                | fail)
              exact ⟨⟨x + 1, xi + 1, _, hxlt, by simp, Lib.hid (by rw [HXI.out]; omega), Lib.hid (below_set B4.out (by omega)), Lib.hid (blk_far F4.out (by show w.heap.size ≠ g; omega) _), Lib.hid (blk_put G4.out 1 _ rfl), Lib.hid (R_boxset R4.out G4.out (by decide) 1 _), Lib.hid (Kd.S_set S4.out G4.out (by decide) 1 _)⟩, by have h1_ := HXI.out; simp [intOf]; omega⟩
            · obtain rfl : W = x := by omega
              have x1 : ¬ (xi < wide) := by rw [HXI.out, HWI.out]; omega
              go_wp2_with fail
              exact ⟨⟨y + 1, yi + 1, vt, hlt, by simp, Lib.hid (by rw [HYI.out]; omega), HB, HF, HG, HR, Lib.hid (by rw [Nat.succ_mul]; exact HS.out)⟩, by have h1_ := HYI.out; simp [intOf]; omega⟩
        · obtain rfl : H = y := by omega
          have y1 : ¬ (yi < high) := by rw [HYI.out, HHI.out]; omega
          have gd0 := HG.out.c0
          have gd1 := HG.out.c1
          have f0 := HF.out.c0
          have f1 := HF.out.c1
          have z0 := blk_frozen HF.out 0
          have z1 := blk_frozen HF.out 1
          have hsp : simP l (gridP W H v) := HP.out
          have hS : Kd.S (Kd.slice 2 (Kd.int .i64)) 34 wr w.heap.size (fun _ => True) vt (gridT W H) := HS.out
          have hR := HR.out
          obtain ⟨Ar, cr, eu⟩ := Kd.R_slice hR
          obtain ⟨At, ct, rfl⟩ := Kd.S_slice hS
          rw [hsp.1] at eu
          subst eu
          have HR9 := Lib.hid hR; have HS9 := Lib.hid hS; have HSP := Lib.hid hsp
          clear hsp hS hR HP HR HS
          generalize gridP W H v = P at *
          generalize gridT W H = Tn at *
          go_wp2_with fail
          ((try simp only [Exit.inBlock, Exit.then]); refine bodyPost_ret (by simp [results, Try.results68, go_sem, f0, f1, setCell_same_of, World.cell?_setCell_other]; try rfl) rfl ?_)
          exact ⟨l, Ar, cr, At, ct, HSP.out, rfl, ⟨R_in (R_boxset (R_boxset HR9.out HF.out (by decide) 0 _) (blk_put HF.out 0 _ rfl) (by decide) 1 _), S_in (Kd.S_set (Kd.S_set HS9.out HF.out (by decide) 0 _) (blk_put HF.out 0 _ rfl) (by decide) 1 _)⟩, below_set (below_set HB.out (Nat.le_refl _)) (Nat.le_refl _)⟩

end Go.Proofs.Ytnibobbfepdeiaa
namespace Go.Proofs.Ytnibobbfepdeiaa
open Fl Go.RowKit Go.Proofs.YtnibobbfepdeiaaW.PrintWords Go.Proofs.YtnibobbfepdeiaaW.PrintLast Go.Proofs.YtnibobbfepdeiaaW.PrintMore Go.Proofs.Ytnibobbfepdeiaa.PMesh Msh
set_option linter.unusedVariables false
set_option linter.unusedSimpArgs false

set_option maxHeartbeats 8000000 in
set_option maxRecDepth 100000 in
theorem spec_l02Ring (W H v0 v1 : Nat) (a0 a1 : Int) (HWI : Hid (a0 = (W : Int))) (HHI : Hid (a1 = (H : Int))) (W3 : 3 ≤ W) (W16 : W ≤ 16) (H64 : H ≤ 64) (w : World) :
    Calls Try.prog 57 #[.int .i64 a0, .int .i64 a1, .float .f32 v0, .float .f32 v1] w (AnsG w (ringP W H v0 v1) (ringT W H)) := by
  have B0 := Lib.hid (below_alloc (Below.refl w.heap.size w) (.cells #[.slice none 0 0, .slice none 0 0] 30))
  have F0 := Lib.hid (BoxAt.new w 30 (.slice none 0 0) (.slice none 0 0))
  have hw2 : a0 ≤ 16 := by rw [HWI.out]; omega
  have hw1 : 3 ≤ a0 := by rw [HWI.out]; omega
  have hh2 : a1 ≤ 64 := by rw [HHI.out]; omega
  have hh1 : 0 ≤ a1 := by rw [HHI.out]; omega
  go_enter Try.func57, Try.ntmps57
  go_wp2_with (first
    | ((with_reducible refine gate_dst (N := 18) rfl ?_); refine Kd.R_lit k59 _ 59 ?hg (N := 18) ?hd (xs := ([] : List S59)) (inner := []) (ok := fun _ => True) (okp := fun _ => True) ?hr ?hp (fun _ hk => hk) trivial (Below.refl _ _) (Nat.le_refl _) (by simp) ?_; (case hd => rfl); (case hg => rfl); (case hr => first | (go_simp; done) | (go_simp; rfl)); (case hp => exact (Reps.none _ _)); intro vu w2 ho hb hg_ hnew_; clear hg_ hnew_; obtain ⟨A4, c4, rfl⟩ := Kd.R_slice ho; have B2 := Lib.hid (below_step B0.out hb); have F2 := Lib.hid (F0.out.below hb); have Q2 := Lib.hid (Kd.R_lower ho (below_size B0.out)); clear ho hb)
    | ((with_reducible refine gate_dst (N := 19) rfl ?_); refine Kd.S_lit (Kd.slice 2 (Kd.int .i64)) _ 34 ?hg (N := 19) ?hd (xs := ([] : List (List Int))) (inner := []) (ok := fun _ => True) (okp := fun _ => True) ?hr ?hp (fun _ hk => hk) trivial (Below.refl _ _) (Nat.le_refl _) (by simp) ?_; (case hd => rfl); (case hg => rfl); (case hr => first | (go_simp; done) | (go_simp; rfl)); (case hp => exact (Reps.none _ _)); intro vt w4 ho hb hg_ hnew_; clear hg_ hnew_; obtain ⟨A5, c5, rfl⟩ := Kd.S_slice ho; have B4 := Lib.hid (below_step B2.out hb); have F4 := Lib.hid (F2.out.below hb); have Q4 := Lib.hid (Kd.R_below Q2.out hb); have T4 := Lib.hid (Kd.S_lower ho (below_size B2.out)); clear ho hb)
    | fail)
  have hgl := F4.out.lt
  obtain ⟨wA, hwA⟩ : ∃ W', W' = w4.alloc (.cells #[.slice A4 0 c4, .slice A5 0 c5] 30) := ⟨_, rfl⟩
  have hvA : Below w4.heap.size w4 wA := by rw [hwA]; exact below_alloc (Below.refl _ _) _
  have BA := Lib.hid (below_step B4.out hvA)
  have FA := Lib.hid (F4.out.below hvA)
  have GA := Lib.hid (show BoxAt wA w4.heap.size 30 (.slice A4 0 c4) (.slice A5 0 c5) by rw [hwA]; exact BoxAt.new w4 30 _ _)
  have QA := Lib.hid (Kd.R_below Q4.out hvA)
  have TA := Lib.hid (Kd.S_below T4.out hvA)
  rw [← hwA]
  clear hwA hvA B2 F2 Q2 B4 F4 Q4 T4 B0 F0
  generalize w4.heap.size = g at *
  go_loopw [10] (fun k wr => ∃ (y : Nat) (yi : Int) (u : Value) (l : List S59), y ≤ H + 1 ∧ k = .int .i64 yi ∧ Hid (yi = (y : Int)) ∧ Hid (Below w.heap.size w wr) ∧ Hid (BoxAt wr w.heap.size 30 (.slice none 0 0) (.slice none 0 0)) ∧ Hid (BoxAt wr g 30 u (.slice A5 0 c5)) ∧ Hid (PR v0 v1 W (y * W) l) ∧ Hid (Kd.R k59 59 wr w.heap.size (fun _ => True) u l) ∧ Hid (Kd.S (Kd.slice 2 (Kd.int .i64)) 34 wr w.heap.size (fun _ => True) (.slice A5 0 c5) [])) (fun k _ => (H + 1) - (intOf k).toNat)
  case atStart => exact ⟨0, 0, _, [], Nat.zero_le _, rfl, Lib.hid rfl, BA, FA, GA, Lib.hid (by rw [Nat.zero_mul]; exact PR.zero _ _ _), QA, TA⟩
  case round =>
    clear BA FA GA QA TA
    obtain ⟨y, yi, u, l, hy, rfl, HYI, HB, HF, HG, HP, HR, HS⟩ := hrel
    by_cases hlt : y < H + 1
    · have y1 : yi ≤ a1 := by rw [HYI.out, HHI.out]; omega
      have y3 : yi < 9223372036854775807 := by rw [HYI.out]; omega
      have y4 : (0 : Int) ≤ yi := by rw [HYI.out]; omega
      go_wp2_with fail
      go_loopw [11] (fun k wr => ∃ (x : Nat) (xi : Int) (u : Value) (l : List S59), x ≤ W ∧ k = .int .i64 xi ∧ Hid (xi = (x : Int)) ∧ Hid (Below w.heap.size w wr) ∧ Hid (BoxAt wr w.heap.size 30 (.slice none 0 0) (.slice none 0 0)) ∧ Hid (BoxAt wr g 30 u (.slice A5 0 c5)) ∧ Hid (PR v0 v1 W (y * W + x) l) ∧ Hid (Kd.R k59 59 wr w.heap.size (fun _ => True) u l) ∧ Hid (Kd.S (Kd.slice 2 (Kd.int .i64)) 34 wr w.heap.size (fun _ => True) (.slice A5 0 c5) [])) (fun k _ => W - (intOf k).toNat)
      case atStart => exact ⟨0, 0, u, l, Nat.zero_le _, rfl, Lib.hid rfl, HB, HF, HG, HP, HR, HS⟩
      case round =>
        clear HB HF HG HP HR HS
        obtain ⟨x, xi, u, l, hx, rfl, HXI, HB, HF, HG, HP, HR, HS⟩ := hrel
        by_cases hxlt : x < W
        · have x1 : xi < a0 := by rw [HXI.out, HWI.out]; omega
          have x3 : xi < 9223372036854775807 := by rw [HXI.out]; omega
          have x4 : (0 : Int) ≤ xi := by rw [HXI.out]; omega
          have hll : Hid (l.length ≤ 16384) := Lib.hid (by rw [HP.out.len]; have := Nat.mul_le_mul_right W (show y ≤ 64 by omega); omega)
          go_wp2_with (first
            | (refine wpList_fbin (o := ⟨some 35, _, _, _, _, _⟩) rfl _ _ _ _ _ rfl (by decide) _ _ _ rfl rfl ?_; intro q0 nq0 hq0)
            | (refine wpList_fbin (o := ⟨some 38, _, _, _, _, _⟩) rfl _ _ _ _ _ rfl (by decide) _ _ _ rfl rfl ?_; intro r4 nr4 hr4)
            | (go_at_call 91; first | (have hk_ := B5; refine (spec_l01Sine _ hq0.lt _).mono ?_; rintro E w9 ⟨r9, rfl, hr9, n_, hw_⟩; have hv_ : Below w5.heap.size w5 w9 := (by rw [hw_]; exact pw_below_drewN (pw_below_drewN (Below.refl _ _) _) _); have B9 := Lib.hid (below_step B5.out hv_); have F9 := Lib.hid (F5.out.below hv_); have G9 := Lib.hid (G5.out.below hv_); have R9 := Lib.hid (Kd.R_below R5.out hv_); have T9 := Lib.hid (Kd.S_below T5.out hv_); clear hw_ hv_) | (refine (spec_l01Sine _ hr4.lt _).mono ?_; rintro E w5 ⟨r5, rfl, hr5, n_, hw_⟩; have hv_ : Below wr.heap.size wr w5 := (by rw [hw_]; exact pw_below_drewN (pw_below_drewN (Below.refl _ _) _) _); have B5 := Lib.hid (below_step HB.out hv_); have F5 := Lib.hid (HF.out.below hv_); have G5 := Lib.hid (HG.out.below hv_); have R5 := Lib.hid (Kd.R_below HR.out hv_); have T5 := Lib.hid (Kd.S_below HS.out hv_); clear hw_ hv_))
            | (refine wpList_fbin (o := ⟨some 40, _, _, _, _, _⟩) rfl _ _ _ _ _ rfl (by decide) _ _ _ rfl rfl ?_; intro r6 nr6 hr6)
            | (refine wpList_fbin (o := ⟨some 44, _, _, _, _, _⟩) rfl _ _ _ _ _ rfl (by decide) _ _ _ rfl rfl ?_; intro r10 n10_ hr10; obtain ⟨w10, hw_⟩ : ∃ W', W' = w9.drewN n10_ := ⟨_, rfl⟩; rw [← hw_]; have hv_ : Below w9.heap.size w9 w10 := (by rw [hw_]; exact pw_below_drewN (Below.refl _ _) _); have B10 := Lib.hid (below_step B9.out hv_); have F10 := Lib.hid (F9.out.below hv_); have G10 := Lib.hid (G9.out.below hv_); have R10 := Lib.hid (Kd.R_below R9.out hv_); have T10 := Lib.hid (Kd.S_below T9.out hv_); have hz10 : w10.heap.size = w9.heap.size := (by rw [hw_]; rfl); clear hw_ hv_)
            | (refine wpList_fbin (o := ⟨some 49, _, _, _, _, _⟩) rfl _ _ _ _ _ rfl (by decide) _ _ _ rfl rfl ?_; intro r14 n14_ hr14; obtain ⟨w14, hw14⟩ : ∃ W', W' = (w10.alloc (.cells #[.float .f32 r6, .float .f32 r10, .float .f32 0] 59)).drewN n14_ := ⟨_, rfl⟩; rw [← hw14]; have hx14 : w14.heap[w9.heap.size]? = some (.cells #[.float .f32 r6, .float .f32 r10, .float .f32 0] 59) := (by rw [hw14, ← hz10]; exact heap_alloc_new w10 _); have d_z := blk_frozen hx14 2; have d_2 : w14.cell? ⟨w9.heap.size, 2, none⟩ = some (.float .f32 0) := (blk_cell hx14 2).trans rfl; have hv_ : Below w10.heap.size w10 (w14.setCell ⟨w9.heap.size, 2, none⟩ (.float .f32 r14)) := (by rw [hw14]; exact below_set (pw_below_drewN (below_alloc (Below.refl _ _) _) _) (by show w10.heap.size ≤ w9.heap.size; omega)); have B15 := Lib.hid (below_step B10.out hv_); have F15 := Lib.hid (F10.out.below hv_); have hG_ := G10.out.below hv_; have G15 := Lib.hid hG_; have R15 := Lib.hid (Kd.R_below R10.out hv_); have T15 := Lib.hid (Kd.S_below T10.out hv_); have hx15 := blk_put hx14 2 (.float .f32 r14) rfl; have d_0 : (w14.setCell ⟨w9.heap.size, 2, none⟩ (.float .f32 r14)).cell? ⟨w9.heap.size, 0, none⟩ = some (.float .f32 r6) := (blk_cell hx15 0).trans rfl; have d_1 : (w14.setCell ⟨w9.heap.size, 2, none⟩ (.float .f32 r14)).cell? ⟨w9.heap.size, 1, none⟩ = some (.float .f32 r10) := (blk_cell hx15 1).trans rfl; have d_3 : (w14.setCell ⟨w9.heap.size, 2, none⟩ (.float .f32 r14)).cell? ⟨w9.heap.size, 2, none⟩ = some (.float .f32 r14) := (blk_cell hx15 2).trans rfl; have hg0 := hG_.c0; clear hw14 hv_ hx14 hx15 hG_)
            | ((with_reducible refine gate_builtin (b := .append) (xs := #[.tmp 52, .tmp 54]) rfl ?_); at_builtin; refine Kd.R_append k59 (w0 := w) w.heap.size rfl (.tmp 52) (.tmp 54) 28 59 (.agg #[(.float .f32 0), (.float .f32 0), (.float .f32 0)]) 12 rfl Try.underlying28 info59 rfl (by decide) (by omega) u l ⟨r6, r10, r14⟩ [.float .f32 r6, .float .f32 r10, .float .f32 r14] (fun _ => True) (fun _ => False) rfl (by first | (go_simp; done) | (go_simp; rfl)) ?aP (fun _ hk => hk.elim) ?aF ?aO ?aB ?aS ?aL ?_; (case aP => exact k59_mkM _ _ _ _); (case aB => exact B15.out); (case aF => exact (fun _ _ => trivial)); (case aO => exact R15.out); (case aS => exact below_size B15.out); (case aL => have := hll.out; omega); intro v1_ w1 ho hb hg_ hat
               have hG1 : BoxAt w1 g 30 u (.slice A5 0 c5) := blk_grown G15.out hg_ (Kd.R_ne R15.out G15.out (by decide))
               have F1 := Lib.hid (show BoxAt w1 w.heap.size 30 (.slice none 0 0) (.slice none 0 0) from blk_grown F15.out hg_ (Kd.R_ne R15.out F15.out (by decide)))
               have S1 := Lib.hid (Kd.S_over' T15.out (Kd.R_typed R15.out) (by decide) hg_)
               have hp6 : FR .f32 r6 (bin .mul .f32 (val .f32 v0) (sineTurnsV (bin .add .f32 (bin .quo .f32 (val .f32 (floatOfInt .f32 (x : Int))) (val .f32 (floatOfInt .f32 (W : Int)))) (val .f32 1048576000)))) := (by have h1_ := hr6; rw [hr5.val, hr4.val, hq0.val, HXI.out, HWI.out] at h1_; exact h1_)
               have hp10 : FR .f32 r10 (bin .mul .f32 (val .f32 v0) (sineTurnsV (bin .quo .f32 (val .f32 (floatOfInt .f32 (x : Int))) (val .f32 (floatOfInt .f32 (W : Int)))))) := (by have h1_ := hr10; rw [hr9.val, hq0.val, HXI.out, HWI.out] at h1_; exact h1_)
               have hp14 : FR .f32 r14 (bin .mul .f32 (val .f32 (floatOfInt .f32 (y : Int))) (val .f32 v1)) := (by have h1_ := hr14; rw [HYI.out] at h1_; exact h1_)
               have hps := HP.out.step hxlt hp6 hp10 hp14; obtain ⟨l2, hl2⟩ : ∃ l2, l2 = l ++ [(⟨r6, r10, r14⟩ : S59)] := ⟨_, rfl⟩; rw [← hl2] at ho hps; obtain ⟨Av, cv, rfl⟩ := Kd.R_slice ho; have G1 := Lib.hid hG1; have R1 := Lib.hid ho; have B1 := Lib.hid hb; have P1 := Lib.hid hps; have gs0 := hG1.c0; have gz0 := blk_frozen hG1 0; clear ho hb hg_ hat hG1 hg0 hps hp6 hp10 hp14 hl2 d_0 d_1 d_3 d_2 d_z)
            | fail)
          exact ⟨⟨x + 1, xi + 1, _, _, hxlt, by simp, Lib.hid (by rw [HXI.out]; omega), Lib.hid (below_set B1.out (by omega)), Lib.hid (blk_far F1.out (by show w.heap.size ≠ g; omega) _), Lib.hid (blk_put G1.out 0 _ rfl), P1, Lib.hid (R_boxset R1.out G1.out (by decide) 0 _), Lib.hid (Kd.S_set S1.out G1.out (by decide) 0 _)⟩, by have h1_ := HXI.out; simp [intOf]; omega⟩
        · obtain rfl : W = x := by omega
          have x1 : ¬ (xi < a0) := by rw [HXI.out, HWI.out]; omega
          go_wp2_with fail
          exact ⟨⟨y + 1, yi + 1, u, l, hlt, by simp, Lib.hid (by rw [HYI.out]; omega), HB, HF, HG, Lib.hid HP.out.row, HR, HS⟩, by have h1_ := HYI.out; simp [intOf]; omega⟩
    · obtain rfl : y = H + 1 := by omega
      have y1 : ¬ (yi ≤ a1) := by rw [HYI.out, HHI.out]; omega
      go_wp2_with fail
      clear y1 hlt hy
      go_loopw [14] (fun k wr => ∃ (y : Nat) (yi : Int) (vt : Value), y ≤ H ∧ k = .int .i64 yi ∧ Hid (yi = (y : Int)) ∧ Hid (Below w.heap.size w wr) ∧ Hid (BoxAt wr w.heap.size 30 (.slice none 0 0) (.slice none 0 0)) ∧ Hid (BoxAt wr g 30 u vt) ∧ Hid (Kd.R k59 59 wr w.heap.size (fun _ => True) u l) ∧ Hid (Kd.S (Kd.slice 2 (Kd.int .i64)) 34 wr w.heap.size (fun _ => True) vt (ringTn W (y * W)))) (fun k _ => H - (intOf k).toNat)
      case atStart => exact ⟨0, 0, _, Nat.zero_le _, rfl, Lib.hid rfl, HB, HF, HG, HR, Lib.hid (by rw [Nat.zero_mul]; exact HS.out)⟩
      case round =>
        clear HB HF HG HR HS
        obtain ⟨y, yi, vt, hy, rfl, HYI, HB, HF, HG, HR, HS⟩ := hrel
        by_cases hlt : y < H
        · have y1 : yi < a1 := by rw [HYI.out, HHI.out]; omega
          have y3 : yi < 9223372036854775807 := by rw [HYI.out]; omega
          have y4 : (0 : Int) ≤ yi := by rw [HYI.out]; omega
          go_wp2_with fail
          go_loopw [15] (fun k wr => ∃ (x : Nat) (xi : Int) (vt : Value), x ≤ W ∧ k = .int .i64 xi ∧ Hid (xi = (x : Int)) ∧ Hid (Below w.heap.size w wr) ∧ Hid (BoxAt wr w.heap.size 30 (.slice none 0 0) (.slice none 0 0)) ∧ Hid (BoxAt wr g 30 u vt) ∧ Hid (Kd.R k59 59 wr w.heap.size (fun _ => True) u l) ∧ Hid (Kd.S (Kd.slice 2 (Kd.int .i64)) 34 wr w.heap.size (fun _ => True) vt (ringTn W (y * W + x)))) (fun k _ => W - (intOf k).toNat)
          case atStart => exact ⟨0, 0, vt, Nat.zero_le _, rfl, Lib.hid rfl, HB, HF, HG, HR, HS⟩
          case round =>
            clear HB HF HG HR HS
            obtain ⟨x, xi, vt, hx, rfl, HXI, HB, HF, HG, HR, HS⟩ := hrel
            by_cases hxlt : x < W
            · have x1 : xi < a0 := by rw [HXI.out, HWI.out]; omega
              have x3 : xi < 9223372036854775807 := by rw [HXI.out]; omega
              have x4 : (0 : Int) ≤ xi := by rw [HXI.out]; omega
              have hg1 := HG.out.c1
              have hq1 : a0 * yi ≤ 16 * 64 := by rw [HWI.out, HYI.out, show (W : Int) * (y : Int) = ((W * y : Nat) : Int) by push_cast; rfl]; show _ ≤ ((16 * 64 : Nat) : Int); exact Int.ofNat_le.2 (Nat.mul_le_mul (by omega) (by omega))
              have hq0 : 0 ≤ a0 * yi := by rw [HWI.out, HYI.out, show (W : Int) * (y : Int) = ((W * y : Nat) : Int) by push_cast; rfl]; exact Int.natCast_nonneg _
              obtain ⟨m, hm⟩ : ∃ m, m = a0 * yi := ⟨_, rfl⟩
              rw [← hm] at hq1 hq0
              obtain ⟨m2, hm2⟩ : ∃ m2 : Int, m2 = (((x + 1) % W : Nat) : Int) := ⟨_, rfl⟩
              have hm3 : 0 ≤ m2 := by rw [hm2]; exact Int.natCast_nonneg _
              have hm4 : m2 ≤ 16 := by rw [hm2]; exact Int.ofNat_le.2 (Nat.le_trans (Nat.le_of_lt (Nat.mod_lt _ (by omega))) W16)
              have et : Int.tmod (xi + 1) a0 = m2 := by rw [hm2, HXI.out, HWI.out]; exact tmod_nat x W
              have x5 : xi ≤ 16 := by rw [HXI.out]; omega
              have ew3 : wrap64 (xi + m) = xi + m := Msh.wrap_fit (by omega) (by omega)
              have ei1 : wrap64 (m2 + m) = m2 + m := Msh.wrap_fit (by omega) (by omega)
              have ei2 : wrap64 (m2 + m + a0) = m2 + m + a0 := Msh.wrap_fit (by omega) (by omega)
              have ei3 : wrap64 (xi + m + a0) = xi + m + a0 := Msh.wrap_fit (by omega) (by omega)
              have ei4 : wrap64 (xi + 1) = xi + 1 := Msh.wrap_fit (by omega) (by omega)
              have ew2 : wrap64 (a0 * yi) = m := by rw [← hm]; exact Msh.wrap_fit (by omega) (by omega)
              have hTD : triD W x y = [xi + m, m2 + m, m2 + m + a0] := by rw [hm, hm2, HXI.out, HYI.out, HWI.out]; rfl
              have hTE : triE W x y = [xi + m, m2 + m + a0, xi + m + a0] := by rw [hm, hm2, HXI.out, HYI.out, HWI.out]; rfl
              have hts := ringTn_step W x y hxlt
              rw [hTD, hTE] at hts
              have HTS := Lib.hid hts
              have hll : Hid ((ringTn W (y * W + x)).length ≤ 16384) := Lib.hid (by rw [ringTn_len]; have := Nat.mul_le_mul_right W (show y ≤ 64 by omega); omega)
              have hz1 : ¬ a0 = 0 := by omega
              have hz2 : (a0 == 0) = false := by simpa using hz1
              clear hts hTD hTE hm hm2
              go_wp2_with (first
                | ((with_reducible refine gate_dst (N := 87) rfl ?_); refine Kd.R_lit (Kd.int .i64) _ 2 ?hg (N := 87) ?hd (xs := ([xi + m, m2 + m, m2 + m + a0] : List Int)) (inner := [.int .i64 (xi + m), .int .i64 (m2 + m), .int .i64 (m2 + m + a0)]) (ok := fun _ => True) (okp := fun _ => True) ?hr ?hp (fun _ hk => hk) trivial (Below.refl _ _) (Nat.le_refl _) (by simp) ?_; (case hd => rfl); (case hg => rfl); (case hr => first | (go_simp; done) | (go_simp; rfl)); (case hp => exact (Reps.one (show Kd.M (Kd.int .i64) _ _ _ (xi + m) [.int .i64 (xi + m)] from rfl) (Reps.one (show Kd.M (Kd.int .i64) _ _ _ (m2 + m) [.int .i64 (m2 + m)] from rfl) (Reps.one (show Kd.M (Kd.int .i64) _ _ _ (m2 + m + a0) [.int .i64 (m2 + m + a0)] from rfl) (Reps.none _ _))))); intro va wa ho hb hg_ hnew_; clear hg_ hnew_; obtain ⟨Aa, ca, rfl⟩ := Kd.R_slice ho; have B2_ := Lib.hid (below_step HB.out hb); have F2_ := Lib.hid (HF.out.below hb); have G2_ := Lib.hid (HG.out.below hb); have R2_ := Lib.hid (Kd.R_below HR.out hb); have S2_ := Lib.hid (Kd.S_elder' HS.out (Kd.R_base ho) hb); have L2 := Lib.hid (Kd.R_lower ho (below_size HB.out)); have LB2 := Lib.hid (Kd.R_bound ho); clear ho hb hg1)
                | ((with_reducible refine gate_dst (N := 95) rfl ?_); refine Kd.R_lit (Kd.int .i64) _ 2 ?hg (N := 95) ?hd (xs := ([xi + m, m2 + m + a0, xi + m + a0] : List Int)) (inner := [.int .i64 (xi + m), .int .i64 (m2 + m + a0), .int .i64 (xi + m + a0)]) (ok := fun _ => True) (okp := fun _ => True) ?hr ?hp (fun _ hk => hk) trivial (Below.refl _ _) (Nat.le_refl _) (by simp) ?_; (case hd => rfl); (case hg => rfl); (case hr => first | (go_simp; done) | (go_simp; rfl)); (case hp => exact (Reps.one (show Kd.M (Kd.int .i64) _ _ _ (xi + m) [.int .i64 (xi + m)] from rfl) (Reps.one (show Kd.M (Kd.int .i64) _ _ _ (m2 + m + a0) [.int .i64 (m2 + m + a0)] from rfl) (Reps.one (show Kd.M (Kd.int .i64) _ _ _ (xi + m + a0) [.int .i64 (xi + m + a0)] from rfl) (Reps.none _ _))))); intro vc wc ho hb hg_ hnew_; clear hg_ hnew_; obtain ⟨Ac, cc, rfl⟩ := Kd.R_slice ho; have B3_ := Lib.hid (below_step B2_.out hb); have F3_ := Lib.hid (F2_.out.below hb); have G3_ := Lib.hid (G2_.out.below hb); have R3_ := Lib.hid (Kd.R_below R2_.out hb); have S3_ := Lib.hid (Kd.S_elder' S2_.out (Kd.R_base ho) hb); have L3 := Lib.hid (Kd.R_below L2.out hb); have M3 := Lib.hid (Kd.R_lower ho (below_size B2_.out)); have D3 := Lib.hid (show ∀ k, some k = (Value.slice Aa 3 ca).ownBlock → ¬ some k = (Value.slice Ac 3 cc).ownBlock from fun k h1 h2 => by have := (LB2.out.1 k h1.symm).2.2.1; have := Kd.R_base ho k h2.symm; omega); clear ho hb)
                | ((with_reducible refine gate_builtin (b := .append) (xs := #[.tmp 81, .tmp 96]) rfl ?_); at_builtin; refine S_append2 (Kd.slice 2 (Kd.int .i64)) rfl (w0 := w) w.heap.size rfl (.tmp 81) (.tmp 96) 23 34 (.slice none 0 0) 24 rfl Try.underlying23 info34 rfl (by omega) vt (ringTn W (y * W + x)) [xi + m, m2 + m, m2 + m + a0] [xi + m, m2 + m + a0, xi + m + a0] (.slice Aa 3 ca) (.slice Ac 3 cc) wc.heap.size (fun _ => True) (fun k_ => some k_ = (.slice Aa 3 ca : Value).ownBlock) (fun k_ => some k_ = (.slice Ac 3 cc : Value).ownBlock) rfl (by first | (go_simp; done) | (go_simp; rfl)) ?aC ?aD ?aP ?aQ ?aN ?aM D3.out ?aF ?aO ?aB ?aS ?aL ?_
                   (case aC => exact (blk_cell (heap_alloc_new wc (.cells #[.slice Aa 3 ca, .slice Ac 3 cc] 34)) 0).trans rfl); (case aD => exact (blk_cell (heap_alloc_new wc (.cells #[.slice Aa 3 ca, .slice Ac 3 cc] 34)) 1).trans rfl)
                   (case aP => exact Kd.M_row (Kd.R_alloc (Kd.R_mono (Kd.R_tight rfl (Kd.R_mono (ok' := fun k_ => ((fun _ => True)) k_ ∧ some k_ ≠ (vt : Value).ownBlock) (Kd.R_apart' (L3.out) (Kd.S_typed S3_.out) (by decide)) (fun k_ hk => ⟨trivial, hk.2⟩))) (fun _ h_ => h_)) (.cells #[.slice Aa 3 ca, .slice Ac 3 cc] 34))); (case aQ => exact Kd.M_row (Kd.R_alloc (Kd.R_mono (Kd.R_tight rfl (Kd.R_mono (ok' := fun k_ => ((fun _ => True)) k_ ∧ some k_ ≠ (vt : Value).ownBlock) (Kd.R_apart' (M3.out) (Kd.S_typed S3_.out) (by decide)) (fun k_ hk => ⟨trivial, hk.2⟩))) (fun _ h_ => h_)) (.cells #[.slice Aa 3 ca, .slice Ac 3 cc] 34)))
                   (case aN => exact fun k_ hk_ => ((Kd.R_mono (ok' := fun k_ => ((fun _ => True)) k_ ∧ some k_ ≠ (vt : Value).ownBlock) (Kd.R_apart' (L3.out) (Kd.S_typed S3_.out) (by decide)) (fun k_ hk => ⟨trivial, hk.2⟩))).1 k_ hk_.symm); (case aM => exact fun k_ hk_ => ((Kd.R_mono (ok' := fun k_ => ((fun _ => True)) k_ ∧ some k_ ≠ (vt : Value).ownBlock) (Kd.R_apart' (M3.out) (Kd.S_typed S3_.out) (by decide)) (fun k_ hk => ⟨trivial, hk.2⟩))).1 k_ hk_.symm)
                   (case aF => exact (fun _ _ => trivial)); (case aB => exact below_alloc B3_.out (.cells #[.slice Aa 3 ca, .slice Ac 3 cc] 34)); (case aS => exact Nat.le_trans (below_size B3_.out) (Nat.le_of_lt (blk_lt (heap_alloc_new wc (.cells #[.slice Aa 3 ca, .slice Ac 3 cc] 34))))); (case aL => have := hll.out; omega)
                   (case aO => exact Kd.S_alloc (Kd.S_mono S3_.out (fun k_ hk => ⟨trivial, fun e_ => hk.1.2 e_, fun e_ => hk.2 e_⟩)) (.cells #[.slice Aa 3 ca, .slice Ac 3 cc] 34))
                   intro v9 w4_ ho hb hg_ hat
                   have hW : Below wc.heap.size wc (wc.alloc (.cells #[.slice Aa 3 ca, .slice Ac 3 cc] 34)) := below_alloc (Below.refl _ _) _
                   have hG4 : BoxAt w4_ g 30 u vt := blk_grown (G3_.out.below hW) hg_ (Kd.S_ne S3_.out G3_.out (by decide))
                   have F4_ := Lib.hid (show BoxAt w4_ (w.heap.size) 30 (.slice none 0 0) (.slice none 0 0) from blk_grown (F3_.out.below hW) hg_ (Kd.S_ne S3_.out F3_.out (by decide)))
                   have R4_ := Lib.hid (Kd.R_over' (Kd.R_below R3_.out hW) (Kd.S_typed (Kd.S_below S3_.out hW)) (by decide) hg_)
                   rw [← HTS.out] at ho
                   obtain ⟨Av, cv, rfl⟩ := Kd.S_slice ho
                   have G4_ := Lib.hid hG4; have S4_ := Lib.hid ho; have B4_ := Lib.hid hb; have gs1 := hG4.c1; have gz1 := blk_frozen hG4 1; clear ho hb hg_ hat hW hG4)
                | fail)
              exact ⟨⟨x + 1, xi + 1, _, hxlt, by simp, Lib.hid (by rw [HXI.out]; omega), Lib.hid (below_set B4_.out (by omega)), Lib.hid (blk_far F4_.out (by show w.heap.size ≠ g; omega) _), Lib.hid (blk_put G4_.out 1 _ rfl), Lib.hid (R_boxset R4_.out G4_.out (by decide) 1 _), Lib.hid (Kd.S_set S4_.out G4_.out (by decide) 1 _)⟩, by have h1_ := HXI.out; simp [intOf]; omega⟩
            · obtain rfl : W = x := by omega
              have x1 : ¬ (xi < a0) := by rw [HXI.out, HWI.out]; omega
              go_wp2_with fail
              exact ⟨⟨y + 1, yi + 1, vt, hlt, by simp, Lib.hid (by rw [HYI.out]; omega), HB, HF, HG, HR, Lib.hid (by rw [Nat.succ_mul]; exact HS.out)⟩, by have h1_ := HYI.out; simp [intOf]; omega⟩
        · obtain rfl : H = y := by omega
          have y1 : ¬ (yi < a1) := by rw [HYI.out, HHI.out]; omega
          have gd0 := HG.out.c0
          have gd1 := HG.out.c1
          have f0 := HF.out.c0
          have f1 := HF.out.c1
          have z0 := blk_frozen HF.out 0
          have z1 := blk_frozen HF.out 1
          have hsp : simP l (ringP W H v0 v1) := HP.out
          have hS : Kd.S (Kd.slice 2 (Kd.int .i64)) 34 wr w.heap.size (fun _ => True) vt (ringT W H) := HS.out
          have hR := HR.out
          obtain ⟨Ar, cr, eu⟩ := Kd.R_slice hR
          obtain ⟨At, ct, rfl⟩ := Kd.S_slice hS
          rw [hsp.1] at eu
          subst eu
          have HR9 := Lib.hid hR; have HS9 := Lib.hid hS; have HSP := Lib.hid hsp
          clear hsp hS hR HP HR HS
          generalize ringP W H v0 v1 = P at *
          generalize ringT W H = Tn at *
          go_wp2_with fail
          ((try simp only [Exit.inBlock, Exit.then]); refine bodyPost_ret (by simp [results, Try.results57, go_sem, f0, f1, setCell_same_of, World.cell?_setCell_other]; try rfl) rfl ?_)
          exact ⟨l, Ar, cr, At, ct, HSP.out, rfl, ⟨R_in (R_boxset (R_boxset HR9.out HF.out (by decide) 0 _) (blk_put HF.out 0 _ rfl) (by decide) 1 _), S_in (Kd.S_set (Kd.S_set HS9.out HF.out (by decide) 0 _) (blk_put HF.out 0 _ rfl) (by decide) 1 _)⟩, below_set (below_set HB.out (Nat.le_refl _)) (Nat.le_refl _)⟩

end Go.Proofs.Ytnibobbfepdeiaa
