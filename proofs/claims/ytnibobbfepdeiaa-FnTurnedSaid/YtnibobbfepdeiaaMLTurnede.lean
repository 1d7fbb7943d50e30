/-
  The proof's texts, one behind the other: XUr8f XUmoved XUr8 XUr8g XMmoves XMmove XMjoin XUneg XUturn XOpen XUopen.
-/
import Derived.Test.YtnibobbfepdeiaaMLTurnedd
import Derived.Test.YtnibobbfepdeiaaPMeshx49
import Derived.Test.YtnibobbfepdeiaaG9
import Derived.Test.YtnibobbfepdeiaaPMeshx45
import Derived.Laws.Cover2
import Derived.ProofKit
import Derived.WalkKit
import Derived.OpenShut
import Derived.Lib.SmallJoins
import Derived.Deep.Slices
import Derived.OwnWalk
import Derived.Laws.LoneSync
namespace Go.Proofs.Ytnibobbfepdeiaa
open Fl Go.RowKit Go.Proofs.YtnibobbfepdeiaaW.PrintWords Go.Proofs.YtnibobbfepdeiaaW.PrintLast Go.Proofs.YtnibobbfepdeiaaW.PrintMore Go.Proofs.Ytnibobbfepdeiaa.PMesh Msh
set_option linter.unusedVariables false
set_option linter.unusedSimpArgs false

def boxQ : List S59 := [⟨0, 0, 0⟩, ⟨1073741824, 0, 0⟩, ⟨0, 1073741824, 0⟩, ⟨1073741824, 1073741824, 0⟩, ⟨0, 0, 1073741824⟩, ⟨1073741824, 0, 1073741824⟩, ⟨0, 1073741824, 1073741824⟩, ⟨1073741824, 1073741824, 1073741824⟩]
def boxU : List (List Int) := [[0, 2, 3], [0, 3, 1], [4, 5, 7], [4, 7, 6], [0, 1, 5], [0, 5, 4], [2, 6, 7], [2, 7, 3], [0, 4, 6], [0, 6, 2], [1, 3, 7], [1, 7, 5]]
theorem form_box : formB boxQ boxU = true := by decide +kernel
theorem kept4 {w : World} {g : Nat} (a b c d : Value) : Kept w ((((w.setCell ⟨g + 1, 0, none⟩ a).setCell ⟨g + 1, 1, none⟩ b).setCell ⟨g, 0, none⟩ c).setCell ⟨g, 1, none⟩ d) (In g (g + 1 + 1)) := by
  have h0 : In g (g + 1 + 1) g := ⟨Nat.le_refl _, by omega⟩
  have h1 : In g (g + 1 + 1) (g + 1) := ⟨by omega, Nat.lt_succ_self _⟩
  exact Kept.setCell (p := ⟨g, 1, none⟩) (Kept.setCell (p := ⟨g, 0, none⟩) (Kept.setCell (p := ⟨g + 1, 1, none⟩) (Kept.setCell (p := ⟨g + 1, 0, none⟩) (Kept.refl w _) (Or.inl h1) a) (Or.inl h1) b) (Or.inl h0) c) (Or.inl h0) d
/-- What R8Form leaves. -/
def AnsForm (w : World) (E : Ending) (w' : World) : Prop := ∃ (Q : List S59) (T : List (List Int)) (A : Option Addr) (c : Nat) (B : Option Addr) (e : Nat), formB Q T = true ∧ E = .returned (.agg #[.slice A Q.length c, .slice B T.length e]) ∧ ReadM w' A c Q B e T ∧ Below w.heap.size w w'

set_option maxHeartbeats 2000000 in
set_option maxRecDepth 100000 in
theorem spec_R8Form0 (w : World) : Calls Try.prog 26 #[.int .i64 0] w (AnsForm w) := by
  obtain ⟨hx0, hy0, hb0⟩ := boxes2m w 30 30 (.slice none 0 0) (.slice none 0 0) (.slice none 0 0) (.slice none 0 0)
  have X0 := Lib.hid hx0; have Y0 := Lib.hid hy0; have B0 := Lib.hid hb0
  clear hx0 hy0 hb0
  go_enter Try.func26, Try.ntmps26
  go_wp2_with (first
    | (go_at_call 68; refine (spec_l02Grid 2 2 1065353216 2 2 (Lib.hid rfl) (Lib.hid rfl) (by decide) (by decide) _).mono ?_; rintro E w1 ⟨P', A, c, B, e, hs, rfl, hO, hb⟩; obtain rfl := sim_form (formB_iff form_grid).1 hs; clear hs; have hR := hO.ref; clear hO; have hf := form_grid; generalize gridP 2 2 1065353216 = Q at *; generalize gridT 2 2 = U at *; have HF := Lib.hid hf; clear hf; have o1 := Y0.out.lt; have hX := X0.out.below hb; have hY := Y0.out.below hb; have x0 := hX.c0; have x1 := hX.c1; have y0 := hY.c0; have y1 := hY.c1; have zx0 := blk_frozen hX 0; have zx1 := blk_frozen hX 1; have zy0 := blk_frozen hY 0; have zy1 := blk_frozen hY 1; have B1 := Lib.hid (below_step B0.out hb); have R1 := Lib.hid hR; have O1 := Lib.hid o1; clear hX hY hb hR o1)
    | fail)
  ((try simp only [Exit.inBlock, Exit.then]); refine bodyPost_ret (by simp [results, Try.results26, go_sem, x0, x1, y0, y1, setCell_same_of, World.cell?_setCell_other]; try rfl) rfl ?_)
  have hk := kept4 (w := w1) (g := w.heap.size) (.slice A Q.length c) (.slice B U.length e) (.slice A Q.length c) (.slice B U.length e)
  have hR := R1.out.kept hk (Or.inr O1.out)
  exact ⟨Q, U, A, c, B, e, HF.out, rfl, hR.read, below_set (below_set (below_set (below_set B1.out (by omega)) (by omega)) (Nat.le_refl _)) (Nat.le_refl _)⟩

set_option maxHeartbeats 2000000 in
set_option maxRecDepth 100000 in
theorem spec_R8Form1 (w : World) : Calls Try.prog 26 #[.int .i64 1] w (AnsForm w) := by
  obtain ⟨hx0, hy0, hb0⟩ := boxes2m w 30 30 (.slice none 0 0) (.slice none 0 0) (.slice none 0 0) (.slice none 0 0)
  have X0 := Lib.hid hx0; have Y0 := Lib.hid hy0; have B0 := Lib.hid hb0
  clear hx0 hy0 hb0
  go_enter Try.func26, Try.ntmps26
  go_wp2_with (first
    | (go_at_call 57; refine (spec_l02Ring 4 2 1073741824 1056964608 4 2 (Lib.hid rfl) (Lib.hid rfl) (by decide) (by decide) (by decide) _).mono ?_; rintro E w1 ⟨P', A, c, B, e, hs, rfl, hO, hb⟩; obtain rfl := sim_form (formB_iff form_ring).1 hs; clear hs; have hR := hO.ref; clear hO; have hf := form_ring; generalize ringP 4 2 1073741824 1056964608 = Q at *; generalize ringT 4 2 = U at *; have HF := Lib.hid hf; clear hf; have o1 := Y0.out.lt; have hX := X0.out.below hb; have hY := Y0.out.below hb; have x0 := hX.c0; have x1 := hX.c1; have y0 := hY.c0; have y1 := hY.c1; have zx0 := blk_frozen hX 0; have zx1 := blk_frozen hX 1; have zy0 := blk_frozen hY 0; have zy1 := blk_frozen hY 1; have B1 := Lib.hid (below_step B0.out hb); have R1 := Lib.hid hR; have O1 := Lib.hid o1; clear hX hY hb hR o1)
    | fail)
  ((try simp only [Exit.inBlock, Exit.then]); refine bodyPost_ret (by simp [results, Try.results26, go_sem, x0, x1, y0, y1, setCell_same_of, World.cell?_setCell_other]; try rfl) rfl ?_)
  have hk := kept4 (w := w1) (g := w.heap.size) (.slice A Q.length c) (.slice B U.length e) (.slice A Q.length c) (.slice B U.length e)
  have hR := R1.out.kept hk (Or.inr O1.out)
  exact ⟨Q, U, A, c, B, e, HF.out, rfl, hR.read, below_set (below_set (below_set (below_set B1.out (by omega)) (by omega)) (Nat.le_refl _)) (Nat.le_refl _)⟩

theorem box_f : spec_BoxMesh.f 40 1073741824 = some (boxQ, boxU, true) := by kernel_rfl
set_option maxHeartbeats 2000000 in
set_option maxRecDepth 100000 in
theorem spec_R8Form2 (w : World) : Calls Try.prog 26 #[.int .i64 2] w (AnsForm w) := by
  obtain ⟨hx0, hy0, hb0⟩ := boxes2m w 30 30 (.slice none 0 0) (.slice none 0 0) (.slice none 0 0) (.slice none 0 0)
  have X0 := Lib.hid hx0; have Y0 := Lib.hid hy0; have B0 := Lib.hid hb0
  clear hx0 hy0 hb0
  go_enter Try.func26, Try.ntmps26
  go_wp2_with (first
    | (go_at_call 69; refine (spec_BoxMesh.calls 40 1073741824 boxQ boxU true _ box_f).mono ?_; rintro E w1 ⟨v0_, v1_, rfl, hP, hN, hb⟩; obtain ⟨A, c, rfl⟩ := Kd.R_slice hP; obtain ⟨B, e, rfl⟩ : ∃ B e, v1_ = .slice B boxU.length e := (by obtain ⟨B, e, h1, _⟩ := Kd.N_reads hN; exact ⟨B, e, h1⟩); have hR : RefM w1 _ w1.heap.size _ _ boxQ boxU := ⟨R_in hP, N_in hN (fun k hk => hk.1)⟩; clear hP hN; have hf := form_box; generalize boxQ = Q at *; generalize boxU = U at *; have HF := Lib.hid hf; clear hf; have o1 := Y0.out.lt; have hb2 : Below _ _ (w1.alloc (.cells #[.slice A Q.length c, .slice B U.length e] 30)) := below_alloc hb _; have hX := X0.out.below hb2; have hY := Y0.out.below hb2; have x0 := hX.c0; have x1 := hX.c1; have y0 := hY.c0; have y1 := hY.c1; have zx0 := blk_frozen hX 0; have zx1 := blk_frozen hX 1; have zy0 := blk_frozen hY 0; have zy1 := blk_frozen hY 1; have B1 := Lib.hid (below_step B0.out hb2); have R1 := Lib.hid (RefM.below hR (show Below w1.heap.size w1 (w1.alloc (.cells #[.slice A Q.length c, .slice B U.length e] 30)) from below_alloc (Below.refl _ _) _)); have O1 := Lib.hid o1; clear hX hY hb hb2 hR o1)
    | fail)
  ((try simp only [Exit.inBlock, Exit.then]); refine bodyPost_ret (by simp [results, Try.results26, go_sem, x0, x1, y0, y1, setCell_same_of, World.cell?_setCell_other]; try rfl) rfl ?_)
  have hk := kept4 (w := (w1.alloc (.cells #[.slice A Q.length c, .slice B U.length e] 30))) (g := w.heap.size) (.slice A Q.length c) (.slice B U.length e) (.slice A Q.length c) (.slice B U.length e)
  have hR := R1.out.kept hk (Or.inr O1.out)
  exact ⟨Q, U, A, c, B, e, HF.out, rfl, hR.read, below_set (below_set (below_set (below_set B1.out (by omega)) (by omega)) (Nat.le_refl _)) (Nat.le_refl _)⟩

set_option maxHeartbeats 2000000 in
set_option maxRecDepth 100000 in
theorem spec_R8Form3 (w : World) : Calls Try.prog 26 #[.int .i64 3] w (AnsForm w) := by
  obtain ⟨hx0, hy0, hb0⟩ := boxes2m w 30 30 (.slice none 0 0) (.slice none 0 0) (.slice none 0 0) (.slice none 0 0)
  have X0 := Lib.hid hx0; have Y0 := Lib.hid hy0; have B0 := Lib.hid hb0
  clear hx0 hy0 hb0
  go_enter Try.func26, Try.ntmps26
  go_wp2_with (first
    | (go_at_call 70; refine (spec_l02Ball0 _).mono ?_; rintro E w1 ⟨A, c, B, e, rfl, hR, hb⟩; have hf := form_oct; generalize octP = Q at *; generalize octT = U at *; have HF := Lib.hid hf; clear hf; have o1 := Y0.out.lt; have hX := X0.out.below hb; have hY := Y0.out.below hb; have x0 := hX.c0; have x1 := hX.c1; have y0 := hY.c0; have y1 := hY.c1; have zx0 := blk_frozen hX 0; have zx1 := blk_frozen hX 1; have zy0 := blk_frozen hY 0; have zy1 := blk_frozen hY 1; have B1 := Lib.hid (below_step B0.out hb); have R1 := Lib.hid hR; have O1 := Lib.hid o1; clear hX hY hb hR o1)
    | fail)
  ((try simp only [Exit.inBlock, Exit.then]); refine bodyPost_ret (by simp [results, Try.results26, go_sem, x0, x1, y0, y1, setCell_same_of, World.cell?_setCell_other]; try rfl) rfl ?_)
  have hk := kept4 (w := w1) (g := w.heap.size) (.slice A Q.length c) (.slice B U.length e) (.slice A Q.length c) (.slice B U.length e)
  have hR := R1.out.kept hk (Or.inr O1.out)
  exact ⟨Q, U, A, c, B, e, HF.out, rfl, hR.read, below_set (below_set (below_set (below_set B1.out (by omega)) (by omega)) (Nat.le_refl _)) (Nat.le_refl _)⟩

set_option maxHeartbeats 2000000 in
set_option maxRecDepth 100000 in
theorem spec_R8Form4 (w : World) : Calls Try.prog 26 #[.int .i64 4] w (AnsForm w) := by
  obtain ⟨hx0, hy0, hb0⟩ := boxes2m w 30 30 (.slice none 0 0) (.slice none 0 0) (.slice none 0 0) (.slice none 0 0)
  have X0 := Lib.hid hx0; have Y0 := Lib.hid hy0; have B0 := Lib.hid hb0
  clear hx0 hy0 hb0
  go_enter Try.func26, Try.ntmps26
  go_wp2_with (first
    | (go_at_call 70; refine (spec_l02Ball1 _).mono ?_; rintro E w1 ⟨A, c, B, e, rfl, hR, hb⟩; have hf := form_ball; generalize ballP = Q at *; generalize ballT = U at *; have HF := Lib.hid hf; clear hf; have o1 := Y0.out.lt; have hX := X0.out.below hb; have hY := Y0.out.below hb; have x0 := hX.c0; have x1 := hX.c1; have y0 := hY.c0; have y1 := hY.c1; have zx0 := blk_frozen hX 0; have zx1 := blk_frozen hX 1; have zy0 := blk_frozen hY 0; have zy1 := blk_frozen hY 1; have B1 := Lib.hid (below_step B0.out hb); have R1 := Lib.hid hR; have O1 := Lib.hid o1; clear hX hY hb hR o1)
    | fail)
  ((try simp only [Exit.inBlock, Exit.then]); refine bodyPost_ret (by simp [results, Try.results26, go_sem, x0, x1, y0, y1, setCell_same_of, World.cell?_setCell_other]; try rfl) rfl ?_)
  have hk := kept4 (w := w1) (g := w.heap.size) (.slice A Q.length c) (.slice B U.length e) (.slice A Q.length c) (.slice B U.length e)
  have hR := R1.out.kept hk (Or.inr O1.out)
  exact ⟨Q, U, A, c, B, e, HF.out, rfl, hR.read, below_set (below_set (below_set (below_set B1.out (by omega)) (by omega)) (Nat.le_refl _)) (Nat.le_refl _)⟩

theorem spec_R8Form (q : Nat) (hq : q < 5) (w : World) : Calls Try.prog 26 #[.int .i64 (q : Int)] w (AnsForm w) := by
  match q, hq with
  | 0, _ => exact spec_R8Form0 w
  | 1, _ => exact spec_R8Form1 w
  | 2, _ => exact spec_R8Form2 w
  | 3, _ => exact spec_R8Form3 w
  | 4, _ => exact spec_R8Form4 w
  | n + 5, h => omega
end Go.Proofs.Ytnibobbfepdeiaa
namespace Go.Proofs.Ytnibobbfepdeiaa
open Fl Go.RowKit Go.Proofs.YtnibobbfepdeiaaW.PrintWords Go.Proofs.YtnibobbfepdeiaaW.PrintLast Go.Proofs.YtnibobbfepdeiaaW.PrintMore Go.Proofs.Ytnibobbfepdeiaa.PMesh Msh
set_option linter.unusedVariables false
set_option linter.unusedSimpArgs false

set_option maxHeartbeats 4000000 in
set_option maxRecDepth 100000 in
theorem spec_R8Moved (Ab : Option Addr) (n cn : Nat) (A : Option Addr) (c : Nat) (Q : List S59) (B : Option Addr) (e : Nat) (T : List (List Int)) (w : World) (hn : n ≤ 48) (hby : Byt w Ab n) (hQ : Kd.C k59 w A Q.length Q) (hT : Kd.C (Kd.slice 2 (Kd.int .i64)) w B T.length T) (a1 : Q.length ≤ 64) (a2 : T.length ≤ 1048576) (a3 : ∀ t ∈ T, t.length ≤ 1048576) :
    Calls Try.prog 25 #[.slice Ab n cn, .agg #[.slice A Q.length c, .slice B T.length e]] w fun E w' => ∃ (P : List S59) (A' : Option Addr) (c' : Nat) (B' : Option Addr) (e' : Nat), NearP Q P Q.length ∧ E = .returned (.agg #[.slice A' Q.length c', .slice B' T.length e']) ∧ OwnM w' w.heap.size w'.heap.size (.slice A' Q.length c') (.slice B' T.length e') P T ∧ Below w.heap.size w w' := by
  obtain ⟨hx0, hf0, hb0⟩ := boxes2m w 30 30 (.slice A Q.length c) (.slice B T.length e) (.slice none 0 0) (.slice none 0 0)
  have X0 := Lib.hid hx0; have F0 := Lib.hid hf0; have B0 := Lib.hid hb0
  clear hx0 hf0 hb0
  have HC := Lib.hid (fun (W : World) (h : Below w.heap.size w W) (hx : BoxAt W w.heap.size 30 (.slice A Q.length c) (.slice B T.length e)) => G9.spec_l02Own w.heap.size Q T w W ⟨A, c, B, e, hx, Nat.le_refl _, hQ, hT⟩ h (by omega) (by omega) a3)
  have HBY := Lib.hid hby
  clear hQ hT a3 hby
  go_enter Try.func25, Try.ntmps25
  go_wp2_with (first
    | (go_at_call 64; have o0 := F0.out.lt; refine (src_from Ab n cn _).mono ?_; rintro E w1 ⟨gs, rfl, hgs, hs, hb⟩; have B1 := Lib.hid (below_step B0.out hb); have X1 := Lib.hid (X0.out.below hb); have F1 := Lib.hid (F0.out.below hb); have N1 := Lib.hid hs; have u0 : w.heap.size + 1 < gs := (by omega); clear hs hb hgs o0)
    | (go_at_call 65; refine (HC.out _ B1.out X1.out).mono ?_; rintro E w3 ⟨v0_, v1_, rfl, hR, hS, hb⟩; obtain ⟨Aq, cq, rfl⟩ := Kd.R_slice hR; obtain ⟨At, ct, rfl⟩ := Kd.S_slice hS; have B3 := Lib.hid (below_step B1.out hb); have F3 := Lib.hid (F1.out.below hb); have N3 := Lib.hid (N1.out.below hb); have Q3 := Lib.hid (Kd.R_lower hR (below_size B1.out)); have T3 := Lib.hid (Kd.S_lower hS (below_size B1.out)); clear hR hS hb)
    | fail)
  have hgl := blk_lt N3.out
  obtain ⟨w6, hw6⟩ : ∃ W, W = w3.alloc (.cells #[.slice Aq Q.length cq, .slice At T.length ct] 30) := ⟨_, rfl⟩
  have hv6 : Below w3.heap.size w3 w6 := by rw [hw6]; exact below_alloc (Below.refl _ _) _
  have MI := Lib.hid (show MovI (fun _ => True) w w6 (w.heap.size + 1) w3.heap.size gs Ab n cn 0 0 (.slice Aq Q.length cq) (.slice At T.length ct) Q T from ⟨below_step B3.out hv6, F3.out.below hv6, N3.out.below hv6, by rw [hw6]; exact BoxAt.new w3 30 _ _, Kd.R_below Q3.out hv6, Kd.S_below T3.out hv6⟩)
  rw [← hw6]
  generalize w3.heap.size = g at *
  have u1 : w.heap.size ≤ gs := by omega
  have u2 : w.heap.size + 1 ≠ gs := by omega
  have u3 : g ≠ gs := by omega
  have u4 : w.heap.size + 1 < g := by omega
  clear hw6 hv6 B3 F3 N3 Q3 T3 B1 X1 F1 N1 B0 X0 F0 HC hgl u0
  go_loopw [7] (fun kk wr => ∃ (i : Nat) (l : List S59) (k : Nat) (sd : Int), i ≤ Q.length ∧ k = 3 * i ∧ kk = .int .i64 (i : Int) ∧ Hid (NearP Q l i) ∧ Hid (MovI (fun _ => True) w wr (w.heap.size + 1) g gs Ab n cn (k) sd (.slice Aq Q.length cq) (.slice At T.length ct) l T)) (fun k _ => Q.length - (intOf k).toNat)
  case atStart => exact ⟨0, Q, 0, 0, Nat.zero_le _, rfl, rfl, Lib.hid (NearP.zero _), MI⟩
  case round =>
    clear MI
    obtain ⟨i, l, k, sd, hi, rfl, rfl, HPP, MI⟩ := hrel
    have hll := HPP.out.1
    have gs0 := MI.out.2.2.2.1.c0
    by_cases hlt : i < Q.length
    · have i1 : (i : Int) < (Q.length : Int) := by omega
      have i2 : (0 : Int) ≤ (i : Int) := by omega
      have i3 : (i : Int) < 9223372036854775807 := by omega
      have hat := HPP.out.at_ hlt
      have HPT := Lib.hid (fun (y : S59) (hy : Near y Q[i]) => HPP.out.set hlt hy)
      have HL := Lib.hid hat
      clear hat HPP
      go_wp2_with (first
        | (have k3 := E2.out; go_at_call 66; obtain ⟨W9, hW9⟩ : ∃ W, W = wd2.setCell ⟨gv, 1, none⟩ (.float .f32 q) := ⟨_, rfl⟩; have k4 : MovI (fun k => k ≠ gv) w W9 (w.heap.size + 1) g gs Ab n cn (3 * i + 1 + 1) sd2 (.slice Aq Q.length cq) (.slice At T.length ct) l T := (by rw [hW9]; exact D2.out.setV k3 1 _ v1 v2 v3 v4); have k5 : BoxT W9 gv 59 p q 0 := (by rw [hW9]; exact blk_put k3 1 _ rfl); rw [← hW9]; refine (src_pick gs Ab n cn (3 * i + 1 + 1) sd2 W9 hn (by omega) k4.2.2.1 (HBY.out.below k4.1)).mono ?_; rintro E w3 ⟨m2, y2, sd3, rfl, HY2, hm2, hs3, hg3⟩; obtain ⟨z2, hz2⟩ : ∃ z : Int, z = y2 - 4 := ⟨_, rfl⟩; have e2 : wrap64 (y2 - 4) = z2 := (by rw [hz2]; have h1_ := HY2.out; exact Msh.wrap_fit (by omega) (by omega)); have HZ2 := Lib.hid (show z2 = (m2 : Int) - 4 by rw [hz2, HY2.out]); clear hz2 HY2; have M3 := Lib.hid (k4.pick hs3 hg3 u1 u2 u3); have V3 := Lib.hid (show BoxT w3 gv 59 p q 0 from blk_grown k5 hg3 (fun e => v4 (Option.some.inj e).symm)); clear hW9 k3 k4 k5 hs3 hg3 D2 E2 c9_ f9_)
        | (have k3 := D1.out; go_at_call 66; have o0 := k3.2.1.lt; have o1 := blk_lt k3.2.2.1; have o2 := k3.2.2.2.1.lt; have v1 : w.heap.size ≤ wd1.heap.size := (by omega); have v2 : w.heap.size + 1 ≠ wd1.heap.size := (by omega); have v3 : g ≠ wd1.heap.size := (by omega); have v4 : gs ≠ wd1.heap.size := (by omega); obtain ⟨W9, hW9⟩ : ∃ W, W = wd1.alloc (.cells #[.float .f32 p, .float .f32 0, .float .f32 0] 59) := ⟨_, rfl⟩; obtain ⟨k4, k5⟩ : MovI (fun k => k ≠ wd1.heap.size) w W9 (w.heap.size + 1) g gs Ab n cn (3 * i + 1) sd1 (.slice Aq Q.length cq) (.slice At T.length ct) l T ∧ BoxT W9 wd1.heap.size 59 p 0 0 := (by rw [hW9]; exact k3.newV p 0 0); rw [← hW9]; refine (src_pick gs Ab n cn (3 * i + 1) sd1 W9 hn (by omega) k4.2.2.1 (HBY.out.below k4.1)).mono ?_; rintro E w2 ⟨m1, y1, sd2, rfl, HY1, hm1, hs2, hg2⟩; obtain ⟨z1, hz1⟩ : ∃ z : Int, z = y1 - 4 := ⟨_, rfl⟩; have e1 : wrap64 (y1 - 4) = z1 := (by rw [hz1]; have h1_ := HY1.out; exact Msh.wrap_fit (by omega) (by omega)); have HZ1 := Lib.hid (show z1 = (m1 : Int) - 4 by rw [hz1, HY1.out]); clear hz1 HY1; have k6 := k4.pick hs2 hg2 u1 u2 u3; have k7 : BoxT w2 wd1.heap.size 59 p 0 0 := blk_grown k5 hg2 (fun e => v4 (Option.some.inj e).symm); clear hW9 k3 k4 k5 hs2 hg2 D1 o0 o1 o2; generalize wd1.heap.size = gv at *; have M2 := Lib.hid k6; have V2 := Lib.hid k7; clear k6 k7)
        | (go_at_call 66; refine (src_pick gs Ab n cn (3 * i) sd wr hn (by omega) MI.out.2.2.1 (HBY.out.below MI.out.1)).mono ?_; rintro E w1 ⟨m0, y0, sd1, rfl, HY0, hm0, hs1, hg1⟩; obtain ⟨z0, hz0⟩ : ∃ z : Int, z = y0 - 4 := ⟨_, rfl⟩; have e0 : wrap64 (y0 - 4) = z0 := (by rw [hz0]; have h1_ := HY0.out; exact Msh.wrap_fit (by omega) (by omega)); have HZ0 := Lib.hid (show z0 = (m0 : Int) - 4 by rw [hz0, HY0.out]); clear hz0 HY0; have M1 := Lib.hid (MI.out.pick hs1 hg1 u1 u2 u3); clear hs1 hg1 MI)
        | ((refine wpList_fbin (o := ⟨some 23, _, _, _, _, _⟩) rfl _ _ _ _ _ rfl (by decide) _ _ _ rfl rfl ?_; intro p np hp); obtain ⟨wd1, hwd⟩ : ∃ W, W = w1.drewN np := ⟨_, rfl⟩; rw [← hwd]; have hvd : Below w1.heap.size w1 wd1 := (by rw [hwd]; exact pw_below_drewN (Below.refl _ _) _); have HE0 := Lib.hid (eighth_val HZ0.out hp); have D1 := Lib.hid (M1.out.below hvd); clear hwd hvd hp HZ0 M1 e0)
        | ((refine wpList_fbin (o := ⟨some 29, _, _, _, _, _⟩) rfl _ _ _ _ _ rfl (by decide) _ _ _ rfl rfl ?_; intro q nq hq); obtain ⟨wd2, hwd⟩ : ∃ W, W = w2.drewN nq := ⟨_, rfl⟩; rw [← hwd]; have hvd : Below w2.heap.size w2 wd2 := (by rw [hwd]; exact pw_below_drewN (Below.refl _ _) _); have HE1 := Lib.hid (eighth_val HZ1.out hq); have D2 := Lib.hid (M2.out.below hvd); have k9_ := V2.out.below hvd; have c9_ := k9_.c1; have f9_ := blk_frozen k9_ 1; have E2 := Lib.hid k9_; clear k9_; clear hwd hvd hq HZ1 M2 V2 e1)
        | ((refine wpList_fbin (o := ⟨some 35, _, _, _, _, _⟩) rfl _ _ _ _ _ rfl (by decide) _ _ _ rfl rfl ?_; intro r nr hr); obtain ⟨wd3, hwd⟩ : ∃ W, W = w3.drewN nr := ⟨_, rfl⟩; rw [← hwd]; have hvd : Below w3.heap.size w3 wd3 := (by rw [hwd]; exact pw_below_drewN (Below.refl _ _) _); have HE2 := Lib.hid (eighth_val HZ2.out hr); have D3 := Lib.hid (M3.out.below hvd); have k9_ := V3.out.below hvd; have c9_ := k9_.c2; have f9_ := blk_frozen k9_ 2; have E3 := Lib.hid k9_; clear k9_; clear hwd hvd hr HZ2 M3 V3 e2)
        | fail)
      obtain ⟨w12, hw12⟩ : ∃ W, W = wd3.setCell ⟨gv, 2, none⟩ (.float .f32 r) := ⟨_, rfl⟩
      rw [← hw12]
      have hMV : MovI (fun k => k ≠ gv) w w12 (w.heap.size + 1) g gs Ab n cn (3 * i + 1 + 1 + 1) sd3 (.slice Aq Q.length cq) (.slice At T.length ct) l T := by rw [hw12]; exact D3.out.setV E3.out 2 _ v1 v2 v3 v4
      have hV : BoxT w12 gv 59 p q r := by rw [hw12]; exact blk_put E3.out 2 _ rfl
      clear hw12 D3 E3 c9_ f9_ gs0
      obtain ⟨gq, cq', er, hgq1, hgq2, hgq3⟩ := Kd.R_form hMV.2.2.2.2.1 (by omega)
      rw [hll] at er
      obtain ⟨rfl, rfl⟩ : Aq = some ⟨gq, 0, none⟩ ∧ cq = cq' := by injection er with h1 _ h3; exact ⟨h1, h3⟩
      obtain ⟨ce, hcl, hM, hcc, hfr⟩ := Kd.R_elem (Kd.R_drew hMV.2.2.2.2.1) ⟨0, 0, 0⟩ (i : Int) i2 (by omega)
      rw [Int.toNat_natCast, HL.out] at hM
      obtain rfl := k59_openM hM
      rw [Int.toNat_natCast] at hcc
      generalize Q[i] = x at *
      obtain ⟨p0, p1, p2⟩ := x
      have cx0 : w12.drew.cell? ⟨gq, i * 3, none⟩ = some (.float .f32 p0) := hcc 0 _ rfl
      have cx1 : w12.drew.cell? ⟨gq, i * 3 + 1, none⟩ = some (.float .f32 p1) := hcc 1 _ rfl
      have cx2 : w12.drew.cell? ⟨gq, i * 3 + 2, none⟩ = some (.float .f32 p2) := hcc 2 _ rfl
      clear hcl hM hcc hfr er
      have HMV : Hid (MovI (fun k => k ≠ gv) w w12.drew (w.heap.size + 1) g gs Ab n cn (3 * i + 1 + 1 + 1) sd3 (.slice (some ⟨gq, 0, none⟩) Q.length cq) (.slice At T.length ct) l T) := Lib.hid (hMV.below (Below.drew (Below.refl _ _)))
      have HV : Hid (BoxT w12.drew gv 59 p q r) := Lib.hid (hV.below (Below.drew (Below.refl _ _)))
      clear hMV hV
      refine start_ (n := 12) (S := fun w' => w'.cell? ⟨g, 0, none⟩ = some (.slice (some ⟨gq, 0, none⟩) Q.length cq) ∧ w'.cell? ⟨gq, i * 3, none⟩ = some (.float .f32 p0) ∧ w'.cell? ⟨gq, i * 3 + 1, none⟩ = some (.float .f32 p1) ∧ w'.cell? ⟨gq, i * 3 + 2, none⟩ = some (.float .f32 p2) ∧ w'.cell? ⟨gv, 0, none⟩ = some (.float .f32 p) ∧ w'.cell? ⟨gv, 1, none⟩ = some (.float .f32 q) ∧ w'.cell? ⟨gv, 2, none⟩ = some (.float .f32 r)) (ds := [11]) #[false, false, false, false, false, false, false, false, false, false, false, false] (by kernel_rfl) rfl rfl ⟨HMV.out.2.2.2.1.c0, cx0, cx1, cx2, HV.out.c0, HV.out.c1, HV.out.c2⟩ (fun hHeld => ?_)
      generalize w12.drew = w13 at HMV HV hHeld ⊢
      clear cx0 cx1 cx2
      refine pure_ (i := 0) (N := (some 37)) (v := ?_) (a' := ?_) #[true, false, false, false, false, false, false, false, false, false, false, false] rfl rfl (by kernel_rfl) (fun _ _ _ h => h) (Or.inl ⟨by rfl, ?_⟩) ?_ ?_
      rotate_left
      · intro w'
        go_simp
        with_reducible rfl
      rotate_left
      · simp only [Act.put, List.setIfInBounds_toArray, List.set_cons_zero, List.set_cons_succ, i64_w, i32_w]; rfl
      refine pure_ (i := 2) (N := (some 39)) (v := ?_) (a' := ?_) #[true, false, true, false, false, false, false, false, false, false, false, false] rfl rfl (by kernel_rfl) (fun _ _ _ h => h) (Or.inl ⟨by rfl, ?_⟩) ?_ ?_
      rotate_left
      · intro w'
        go_simp
        with_reducible rfl
      rotate_left
      · simp only [Act.put, List.setIfInBounds_toArray, List.set_cons_zero, List.set_cons_succ, i64_w, i32_w]; rfl
      refine pure_ (i := 3) (N := (some 40)) (v := ?_) (a' := ?_) #[true, false, true, true, false, false, false, false, false, false, false, false] rfl rfl (by kernel_rfl) (fun _ _ _ h => h) (Or.inl ⟨by rfl, ?_⟩) ?_ ?_
      rotate_left
      · intro w'
        go_simp
        with_reducible rfl
      rotate_left
      · simp only [Act.put, List.setIfInBounds_toArray, List.set_cons_zero, List.set_cons_succ, i64_w, i32_w]; rfl
      refine pure_ (i := 5) (N := (some 42)) (v := ?_) (a' := ?_) #[true, false, true, true, false, true, false, false, false, false, false, false] rfl rfl (by kernel_rfl) (fun _ _ _ h => h) (Or.inl ⟨by rfl, ?_⟩) ?_ ?_
      rotate_left
      · intro w'
        go_simp
        with_reducible rfl
      rotate_left
      · simp only [Act.put, List.setIfInBounds_toArray, List.set_cons_zero, List.set_cons_succ, i64_w, i32_w]; rfl
      refine take_ (i := 1) (N := (some 38)) (v := ?_) (a' := ?_) #[true, true, true, true, false, true, false, false, false, false, false, false] rfl rfl (by kernel_rfl) (fun _ _ _ h => h) (Or.inl ⟨by rfl, ?_⟩) hHeld ?_ ?_
      rotate_left
      · intro w' hSw
        (try dsimp only at hSw)
        go_simp
        with_reducible rfl
      rotate_left
      · simp only [Act.put, List.setIfInBounds_toArray, List.set_cons_zero, List.set_cons_succ, i64_w, i32_w]; rfl
      refine take_ (i := 4) (N := (some 41)) (v := ?_) (a' := ?_) #[true, true, true, true, true, true, false, false, false, false, false, false] rfl rfl (by kernel_rfl) (fun _ _ _ h => h) (Or.inl ⟨by rfl, ?_⟩) hHeld ?_ ?_
      rotate_left
      · intro w' hSw
        (try dsimp only at hSw)
        go_simp
        with_reducible rfl
      rotate_left
      · simp only [Act.put, List.setIfInBounds_toArray, List.set_cons_zero, List.set_cons_succ, i64_w, i32_w]; rfl
      refine pure_ (i := 6) (N := (some 43)) (v := ?_) (a' := ?_) #[true, true, true, true, true, true, true, false, false, false, false, false] rfl rfl (by kernel_rfl) (fun _ _ _ h => h) (Or.inl ⟨by rfl, ?_⟩) ?_ ?_
      rotate_left
      · intro w'
        go_simp
        with_reducible rfl
      rotate_left
      · simp only [Act.put, List.setIfInBounds_toArray, List.set_cons_zero, List.set_cons_succ, i64_w, i32_w]; rfl
      refine take_ (i := 7) (N := (some 44)) (v := ?_) (a' := ?_) #[true, true, true, true, true, true, true, true, false, false, false, false] rfl rfl (by kernel_rfl) (fun _ _ _ h => h) (Or.inl ⟨by rfl, ?_⟩) hHeld ?_ ?_
      rotate_left
      · intro w' hSw
        (try dsimp only at hSw)
        go_simp
        with_reducible rfl
      rotate_left
      · simp only [Act.put, List.setIfInBounds_toArray, List.set_cons_zero, List.set_cons_succ, i64_w, i32_w]; rfl
      refine take_ (i := 8) (N := (some 45)) (v := ?_) (a' := ?_) #[true, true, true, true, true, true, true, true, true, false, false, false] rfl rfl (by kernel_rfl) (fun _ _ _ h => h) (Or.inl ⟨by rfl, ?_⟩) hHeld ?_ ?_
      rotate_left
      · intro w' hSw
        (try dsimp only at hSw)
        go_simp
        with_reducible rfl
      rotate_left
      · simp only [Act.put, List.setIfInBounds_toArray, List.set_cons_zero, List.set_cons_succ, i64_w, i32_w]; rfl
      refine one_ (i := 9) (N := (some 46)) #[true, true, true, true, true, true, true, true, true, true, false, false] rfl rfl (by kernel_rfl) (by decide) (fun K hK => ?_)
      refine goes_ Try.func67 (by kernel_rfl) rfl #[.agg #[.float .f32 p0, .float .f32 p1, .float .f32 p2], .agg #[.float .f32 p, .float .f32 q, .float .f32 r]] (by rfl) rfl rfl (by (try simp only [List.map_toArray, List.map_cons, List.map_nil]); first | done | rfl) ?_
      refine (spec_l01Add p0 p1 p2 p q r _).mono ?_
      rintro E w14 ⟨pa, pb, pc, rfl, ha, hb_, hc, hb⟩
      have HN := Lib.hid (near_of (x := ⟨p0, p1, p2⟩) hm0 hm1 hm2 HE0.out HE1.out HE2.out ha hb_ hc)
      have DV := Lib.hid (HV.out.below hb); have DM := Lib.hid (HMV.out.mono.below hb)
      obtain ⟨ce, hcl, hM, hcc, hfr⟩ := Kd.R_elem DM.out.2.2.2.2.1 ⟨0, 0, 0⟩ (i : Int) (by omega) (by omega)
      rw [Int.toNat_natCast, HL.out] at hM
      obtain rfl := k59_openM hM
      rw [Int.toNat_natCast] at hcc hfr
      have dx0 : w14.cell? ⟨gq, i * 3, none⟩ = some (.float .f32 p0) := hcc 0 _ rfl
      have dx1 : w14.cell? ⟨gq, i * 3 + 1, none⟩ = some (.float .f32 p1) := hcc 1 _ rfl
      have dx2 : w14.cell? ⟨gq, i * 3 + 2, none⟩ = some (.float .f32 p2) := hcc 2 _ rfl
      have hz0 : w14.frozen? ⟨gq, i * 3, none⟩ = false := hfr 0
      have hz1 : w14.frozen? ⟨gq, i * 3 + 1, none⟩ = false := hfr 1
      have hz2 : w14.frozen? ⟨gq, i * 3 + 2, none⟩ = false := hfr 2
      have HP := Kd.R_seg DM.out.2.2.2.2.1 (i : Int) (by omega) (by omega) (seg := [.float .f32 pa, .float .f32 pb, .float .f32 pc]) (j := 0) hcl (by rw [Int.toNat_natCast]; exact hcc) (show 3 ≤ 3 from by decide) (x' := (⟨pa, pb, pc⟩ : S59)) (k59_mkM _ _ _ _) (fun _ hk => hk)
      rw [Int.toNat_natCast] at HP
      have HPH := Lib.hid HP
      have Z0 := Lib.hid dx0; have Z1 := Lib.hid dx1; have Z2 := Lib.hid dx2; have Z3 := Lib.hid hz0; have Z4 := Lib.hid hz1; have Z5 := Lib.hid hz2
      clear hcl hM hcc hfr HP ha hb_ hc hb hz0 hz1 hz2 HMV HV HE0 HE1 HE2
      refine ⟨_, rfl, ?_⟩
      refine hK.out _ _ ⟨DM.out.2.2.2.1.c0, dx0, dx1, dx2, DV.out.c0, DV.out.c1, DV.out.c2⟩ (fun hHeld => ?_)
      clear hK K
      refine norm_ (a' := ?_) ?_ ?_
      rotate_left
      · show Act.put _ (some 46) _ = _
        simp only [Act.put, List.setIfInBounds_toArray, List.set_cons_zero, List.set_cons_succ, i64_w, i32_w]
        rfl
      clear dx0 dx1 dx2
      refine pure_ (i := 10) (N := (some 47)) (v := ?_) (a' := ?_) #[true, true, true, true, true, true, true, true, true, true, true, false] rfl rfl (by kernel_rfl) (fun _ _ _ h => h) (Or.inl ⟨by rfl, ?_⟩) ?_ ?_
      rotate_left
      · intro w'
        go_simp
        with_reducible rfl
      rotate_left
      · simp only [Act.put, List.setIfInBounds_toArray, List.set_cons_zero, List.set_cons_succ, i64_w, i32_w]; rfl
      refine last_ (i := 11) (N := none) #[true, true, true, true, true, true, true, true, true, true, true, true] rfl rfl (by kernel_rfl) (by decide) (fun K hK => ?_)
      have dx0 := Z0.out; have dx1 := Z1.out; have dx2 := Z2.out; have hz0 := Z3.out; have hz1 := Z4.out; have hz2 := Z5.out
      refine skip_ (w1 := ?_) (by rfl) rfl ?_ ?_
      rotate_left
      · go_simp
        rfl
      refine hK.out _ _ ?_
      clear hK K
      clear dx0 dx1 dx2 hz0 hz1 hz2
      refine done_ (by kernel_rfl) ?_
      obtain ⟨w16, hw16⟩ : ∃ W, W = (((w14.setCell ⟨gq, i * 3, none⟩ (.float .f32 pa)).setCell ⟨gq, i * 3 + 1, none⟩ (.float .f32 pb)).setCell ⟨gq, i * 3 + 2, none⟩ (.float .f32 pc)) := ⟨_, rfl⟩
      obtain ⟨HP1, HP2⟩ : Kd.R k59 59 w16 w.heap.size (fun _ => True) (.slice (some ⟨gq, 0, none⟩) Q.length cq) (l.set i ⟨pa, pb, pc⟩) ∧ w14.grownBy w16 (some gq) := by rw [hw16]; exact HPH.out
      rw [← hw16]
      have hgb : w.heap.size ≤ gq := Kd.R_base DM.out.2.2.2.2.1 gq (by simp [Value.ownBlock])
      obtain ⟨dB, d2, dS, d3, dQ, dT⟩ := DM.out
      have EM := Lib.hid (show MovI (fun _ => True) w w16 _ _ _ _ _ _ _ _ _ _ _ _ from ⟨Below.grown dB HP2 (below_size dB) (fun k hk => by cases hk; omega), blk_grown d2 HP2 (Kd.R_ne dQ d2 (by decide)), blk_grown dS HP2 (Kd.R_ne dQ dS (by decide)), blk_grown d3 HP2 (Kd.R_ne dQ d3 (by decide)), HP1, Kd.S_over' dT (Kd.R_typed dQ) (by decide) HP2⟩)
      have EP := Lib.hid (HPT.out _ HN.out)
      clear HP1 HP2 hw16 HPH HN Z0 Z1 Z2 Z3 Z4 Z5 DM DV HPT HL dB d2 dS d3 dQ dT
      go_wp2_with fail
      exact ⟨⟨i + 1, _, 3 * i + 1 + 1 + 1, _, hlt, by omega, by simp, EP, EM⟩, by simp [intOf]; omega⟩
    · obtain rfl : i = Q.length := by omega
      have gd0 := MI.out.2.2.2.1.c0
      have gd1 := MI.out.2.2.2.1.c1
      have f0 := MI.out.2.1.c0
      have f1 := MI.out.2.1.c1
      have z0 := blk_frozen MI.out.2.1 0
      have z1 := blk_frozen MI.out.2.1 1
      go_wp2_with fail
      ((try simp only [Exit.inBlock, Exit.then]); refine bodyPost_ret (by simp [results, Try.results25, go_sem, f0, f1, setCell_same_of, World.cell?_setCell_other]; try rfl) rfl ?_)
      obtain ⟨dB, d2, dS, d3, dQ, dT⟩ := MI.out
      exact ⟨l, Aq, cq, At, ct, HPP.out, rfl, ⟨R_in (R_boxset (R_boxset dQ d2 (by decide) 0 _) (blk_put d2 0 _ rfl) (by decide) 1 _), S_in (Kd.S_set (Kd.S_set dT d2 (by decide) 0 _) (blk_put d2 0 _ rfl) (by decide) 1 _)⟩, below_set (below_set dB (by omega)) (by omega)⟩

end Go.Proofs.Ytnibobbfepdeiaa
namespace Go.Proofs.Ytnibobbfepdeiaa
open Go.RowKit Go.Proofs.YtnibobbfepdeiaaW.PrintWords Go.Proofs.Ytnibobbfepdeiaa.PMesh
set_option linter.unusedVariables false
set_option linter.unusedSimpArgs false

theorem laws_r8Long (A B : Option Addr) (n c m e : Nat) (w : World) : Calls Try.prog 24 #[.slice A n c, .slice B m e] w fun E w' => E = .returned (.bool (decide (48 < n ∨ 48 < m))) ∧ w' = w := by
  by_cases h1 : 48 < n
  · have k1 : (48 : Int) < (n : Int) := by omega
    have e : decide (48 < n ∨ 48 < m) = true := decide_eq_true (Or.inl h1)
    rw [e]
    clear e
    go_enter Try.func24, Try.ntmps24
    go_wp2_with fail
    go_ret
    exact ⟨rfl, rfl⟩
  · have k1 : ¬ (48 : Int) < (n : Int) := by omega
    by_cases h2 : 48 < m
    · have k2 : (48 : Int) < (m : Int) := by omega
      have e : decide (48 < n ∨ 48 < m) = true := decide_eq_true (Or.inr h2)
      rw [e]
      clear e
      go_enter Try.func24, Try.ntmps24
      go_wp2_with fail
      go_ret
      exact ⟨rfl, rfl⟩
    · have k2 : ¬ (48 : Int) < (m : Int) := by omega
      have e : decide (48 < n ∨ 48 < m) = false := decide_eq_false (by omega)
      rw [e]
      clear e
      go_enter Try.func24, Try.ntmps24
      go_wp2_with fail
      go_ret
      exact ⟨rfl, rfl⟩

theorem laws_r8At (A : Option Addr) (n c : Nat) (w : World) (hb : 0 < n → ∃ ad x, A = some ad ∧ w.cell? ad = some (.int .u8 x) ∧ 0 ≤ x ∧ x ≤ 255) : Calls Try.prog 27 #[.slice A n c, .int .i64 0, .int .i64 5] w fun E w' => (∃ q : Nat, q < 5 ∧ E = .returned (.int .i64 (q : Int))) ∧ w' = w := by
  by_cases h0 : n = 0
  · subst h0
    clear hb
    go_enter Try.func27, Try.ntmps27
    go_wp2_with fail
    go_ret
    exact ⟨⟨0, by omega, rfl⟩, rfl⟩
  · obtain ⟨ad, x, rfl, hc, x0, x1⟩ := hb (by omega)
    have k1 : ¬ ((n : Int) ≤ 0) := by omega
    have k2 : (0 : Int) < (n : Int) := by omega
    have k3 : 0 < n := by omega
    obtain ⟨xn, rfl⟩ : ∃ xn : Nat, x = (xn : Int) := ⟨x.toNat, by omega⟩
    have k4 : Int.tmod (xn : Int) 5 = ((xn % 5 : Nat) : Int) := by rw [Int.tmod_eq_emod_of_nonneg (by omega)]; omega
    have hq : xn % 5 < 5 := by omega
    generalize xn % 5 = q at *
    go_enter Try.func27, Try.ntmps27
    go_wp2_with fail
    go_ret
    exact ⟨⟨q, hq, by rw [← k4]; rfl⟩, rfl⟩

end Go.Proofs.Ytnibobbfepdeiaa
namespace Go.Proofs.Ytnibobbfepdeiaa
open Fl Go.RowKit Go.Proofs.YtnibobbfepdeiaaW.PrintWords Go.Proofs.YtnibobbfepdeiaaW.PrintLast Go.Proofs.YtnibobbfepdeiaaW.PrintMore Go.Proofs.Ytnibobbfepdeiaa.PMesh Ieee
attribute [local go_sem] max_two
set_option linter.unusedVariables false
set_option linter.unusedSimpArgs false

theorem max2_fl {x y : Nat} (hx : rung double x < double.infRung) (hy : rung double y < double.infRung) : ∃ g, (g = x ∨ g = y) ∧ Builtin.max2 (.float .f64 x) (.float .f64 y) = pure (.float .f64 g) := by
  have ho := order_key .f64 (x := x) (y := y) (Nat.le_of_lt hx) (Nat.le_of_lt hy)
  unfold Builtin.max2
  dsimp only
  rw [ho]
  cases compare (key FloatKind.f64.format x) (key FloatKind.f64.format y) with
  | lt => exact ⟨y, .inr rfl, rfl⟩
  | gt => exact ⟨x, .inl rfl, rfl⟩
  | eq =>
    dsimp only
    by_cases h : (FloatKind.f64.decode x).neg = true
    · exact ⟨y, .inr rfl, by rw [if_pos h]⟩
    · exact ⟨x, .inl rfl, by rw [if_neg h]⟩

set_option maxHeartbeats 1000000 in
theorem laws_r8Gap (x y g1 g2 : Nat) (h1 : bin .sub .f64 (val .f64 x) (val .f64 y) = some g1) (h2 : bin .sub .f64 (val .f64 y) (val .f64 x) = some g2) (f1 : rung double g1 < double.infRung) (f2 : rung double g2 < double.infRung) (w : World) :
    Calls Try.prog 33 #[.float .f64 x, .float .f64 y] w fun E w' => ∃ g, (g = g1 ∨ g = g2) ∧ E = .returned (.float .f64 g) ∧ ∃ n, w' = w.drewN n := by
  obtain ⟨g, hg, hm⟩ := max2_fl f1 f2
  clear f1 f2
  go_enter Try.func33, Try.ntmps33
  go_wp2_with (first
    | ((refine wpList_fbin (o := ⟨some 7, _, _, _, _, _⟩) rfl _ _ _ _ _ rfl (by decide) _ _ _ rfl rfl ?_; intro p np hp; rw [h1] at hp); obtain rfl := val_some hp.2)
    | ((refine wpList_fbin (o := ⟨some 10, _, _, _, _, _⟩) rfl _ _ _ _ _ rfl (by decide) _ _ _ rfl rfl ?_; intro q nq hq; rw [h2] at hq); obtain rfl := val_some hq.2)
    | fail)
  go_ret
  exact ⟨g, hg, rfl, np + nq, by first | rfl | rw [World.drewN_drewN]⟩

end Go.Proofs.Ytnibobbfepdeiaa
namespace Go.Proofs.Ytnibobbfepdeiaa
open Fl Go.RowKit Go.Proofs.YtnibobbfepdeiaaW.PrintWords Go.Proofs.YtnibobbfepdeiaaW.PrintLast Go.Proofs.YtnibobbfepdeiaaW.PrintMore Go.Proofs.Ytnibobbfepdeiaa.PMesh Msh
set_option linter.unusedVariables false
set_option linter.unusedSimpArgs false

end Go.Proofs.Ytnibobbfepdeiaa
namespace Go.Proofs.Ytnibobbfepdeiaa
open Fl Go.RowKit Go.Proofs.YtnibobbfepdeiaaW.PrintWords Go.Proofs.YtnibobbfepdeiaaW.PrintLast Go.Proofs.YtnibobbfepdeiaaW.PrintMore Go.Proofs.Ytnibobbfepdeiaa.PMesh Msh
set_option linter.unusedVariables false
set_option linter.unusedSimpArgs false

set_option maxHeartbeats 1000000 in
theorem impl_ScaleMesh_fn (x0 x1 x2 : Nat) (v0 : Nat) (gv : Nat) (w : World) (hV : Box1 w gv 42 v0) :
    Calls Try.prog 75 #[.agg #[.float .f32 x0, .float .f32 x1, .float .f32 x2], .pointer (some ⟨gv, 0, none⟩)] w fun E w' => ∃ p q r, E = .returned (.agg #[.float .f32 p, .float .f32 q, .float .f32 r]) ∧ simV ⟨p, q, r⟩ ((scaleV v0) ⟨x0, x1, x2⟩) ∧ Below w.heap.size w w' := by
  have hlt := blk_lt hV
  have hb0 := below_alloc (below_alloc (Below.refl w.heap.size w) (.cells #[.float .f32 x0, .float .f32 x1, .float .f32 x2] 59)) (.cells #[.float .f32 0, .float .f32 0, .float .f32 0] 59)
  have hV1 := hV.below hb0
  have hv0 := hV1.c0
  have hR : BoxT ((w.alloc (.cells #[.float .f32 x0, .float .f32 x1, .float .f32 x2] 59)).alloc (.cells #[.float .f32 0, .float .f32 0, .float .f32 0] 59)) (w.heap.size + 1) 59 0 0 0 := by
    have := BoxT.new (w.alloc (.cells #[.float .f32 x0, .float .f32 x1, .float .f32 x2] 59)) 59 0 0 0
    rw [show (w.alloc (.cells #[.float .f32 x0, .float .f32 x1, .float .f32 x2] 59)).heap.size = w.heap.size + 1 by simp] at this
    exact this
  have B0 := Lib.hid hb0
  have R0 := Lib.hid hR
  clear hb0 hV1 hR hV hlt
  go_enter Try.func75, Try.ntmps75
  go_wp2_with (first
    | (go_at_call 76; refine (impl_ScaleVector x0 x1 x2 v0 _).mono ?_; rintro E w1 ⟨p, q, r, rfl, hp, hq, hr, hb⟩; have B1 := Lib.hid (below_step B0.out hb); have hR1 := R0.out.below hb; have f0 := hR1.c0; have f1 := hR1.c1; have f2 := hR1.c2; have z0 := blk_frozen hR1 0; have z1 := blk_frozen hR1 1; have z2 := blk_frozen hR1 2; clear hb)
    | fail)
  ((try simp only [Exit.inBlock, Exit.then]); refine bodyPost_ret (by simp [results, Try.results75, go_sem, f0, f1, f2, setCell_same_of, World.cell?_setCell_other]; try rfl) rfl ?_)
  exact ⟨p, q, r, rfl, ⟨canB_sim hp, canB_sim hq, canB_sim hr⟩, below_set (below_set (below_set B1.out (Nat.le_succ _)) (Nat.le_succ _)) (Nat.le_succ _)⟩

set_option maxHeartbeats 4000000 in
set_option maxRecDepth 100000 in
theorem impl_placesBy_Scale (A : Option Addr) (c : Nat) (Q : List S59) (B : Option Addr) (e : Nat) (T : List (List Int)) (v0 : Nat) (gv : Nat) (w : World) (hQ : Kd.C k59 w A Q.length Q) (hq : Q.length ≤ c) (hT : Kd.C (Kd.slice 2 (Kd.int .i64)) w B T.length T) (hqt : T.length ≤ e) (hV : Box1 w gv 42 v0) :
    Calls Try.prog 74 #[.agg #[.slice A Q.length c, .slice B T.length e], .func (.func 75) #[] #[.pointer (some ⟨gv, 0, none⟩)]] w (AnsMs w (scaleR Q T v0).1 (scaleR Q T v0).2.1 (scaleR Q T v0).2.2) := by
  obtain ⟨hx0, hf0, hb0⟩ := boxes2m w 30 30 (.slice A Q.length c) (.slice B T.length e) (.slice none 0 0) (.slice none 0 0)
  have X0 := Lib.hid hx0; have F0 := Lib.hid hf0; have B0 := Lib.hid hb0
  have hc0 := hx0.c0
  have hc1 := hx0.c1
  clear hx0 hf0 hb0
  have HF := Lib.hid (fun (x0 x1 x2 : Nat) (W : World) (h : Below w.heap.size w W) => impl_ScaleMesh_fn x0 x1 x2 v0 gv W (hV.below h))
  have HV := Lib.hid (fun (W : World) (h : Below w.heap.size w W) => impl_ValidMesh.calls 2097156 A c Q B e T _ W (Kd.C_below hQ h) hq (Kd.C_below hT h) hqt (valid_f Q T _ (by omega)))
  by_cases hv : validB Q.length T = true
  · obtain ⟨a1, a2, a3⟩ := valid_rows hv
    have hr : scaleR Q T v0 = (Q.map (scaleV v0), T, true) := by unfold scaleR; rw [if_pos hv]
    rw [hr]
    rw [hv] at HV
    have HC := Lib.hid (fun (W : World) (h : Below w.heap.size w W) => impl_copyMesh.calls 1048578 A c Q B e T Q T W (Kd.C_below hQ h) hq (Kd.C_below hT h) hqt (copy_f Q T (by omega) (by omega) (fun t ht => by have := a3 t ht; omega)))
    clear hr hv hQ hT hq hqt a3 hV
    go_enter Try.func74, Try.ntmps74
    go_wp2_with (first
      | (go_at_call 41; refine (HV.out _ B0.out).mono ?_; rintro E w1 ⟨rfl, hb⟩; have B1 := Lib.hid (below_step B0.out hb); have hx1 := X0.out.below hb; have hd0 := hx1.c0; have hd1 := hx1.c1; have F1 := Lib.hid (F0.out.below hb); clear hb hc0 hc1 hx1)
      | (go_at_call 71; refine (HC.out _ B1.out).mono ?_; rintro E w3 ⟨v0_, v1_, rfl, hR, hS, hb⟩; obtain ⟨Aq, cq, rfl⟩ := Kd.R_slice hR; obtain ⟨At, ct, rfl⟩ := Kd.S_slice hS; have B3 := Lib.hid (below_step B1.out hb); have F3 := Lib.hid (F1.out.below hb); have Q3 := Lib.hid (Kd.R_lower hR (below_size B1.out)); have T3 := Lib.hid (Kd.S_lower hS (below_size B1.out)); clear hR hS hb hd0 hd1)
      | fail)
    have hgl := F3.out.lt
    obtain ⟨w6, hw6⟩ : ∃ W, W = w3.alloc (.cells #[.slice Aq Q.length cq, .slice At T.length ct] 30) := ⟨_, rfl⟩
    have hv6 : Below w3.heap.size w3 w6 := by rw [hw6]; exact below_alloc (Below.refl _ _) _
    have B6 := Lib.hid (below_step B3.out hv6)
    have F6 := Lib.hid (F3.out.below hv6)
    have G6 := Lib.hid (show BoxAt w6 w3.heap.size 30 (.slice Aq Q.length cq) (.slice At T.length ct) by rw [hw6]; exact BoxAt.new w3 30 _ _)
    have Q6 := Lib.hid (Kd.R_below Q3.out hv6)
    have T6 := Lib.hid (Kd.S_below T3.out hv6)
    rw [← hw6]
    generalize w3.heap.size = g at *
    clear hw6 hv6 B3 F3 Q3 T3 B1 F1 B0 X0 F0 HV HC
    go_loopw [18] (fun k wr => ∃ (i : Nat) (l : List S59), i ≤ Q.length ∧ k = .int .i64 (i : Int) ∧ Hid (Below w.heap.size w wr) ∧ Hid (BoxAt wr (w.heap.size + 1) 30 (.slice none 0 0) (.slice none 0 0)) ∧ Hid (BoxAt wr g 30 (.slice Aq Q.length cq) (.slice At T.length ct)) ∧ Hid (PartP (scaleV v0) Q l i) ∧ Hid (Kd.R k59 59 wr w.heap.size (fun _ => True) (.slice Aq Q.length cq) l) ∧ Hid (Kd.S (Kd.slice 2 (Kd.int .i64)) 34 wr w.heap.size (fun _ => True) (.slice At T.length ct) T)) (fun k _ => Q.length - (intOf k).toNat)
    case atStart => exact ⟨0, Q, Nat.zero_le _, rfl, B6, F6, G6, Lib.hid (PartP.zero _ _), Q6, T6⟩
    case round =>
      clear B6 F6 G6 Q6 T6
      obtain ⟨i, l, hi, rfl, HB, F2, G2, HPP, HR, HS⟩ := hrel
      have hll := HPP.out.1
      by_cases hlt : i < Q.length
      · have i1 : (i : Int) < (Q.length : Int) := by omega
        have i2 : (0 : Int) ≤ (i : Int) := by omega
        have i3 : (i : Int) < 9223372036854775807 := by omega
        have hat := HPP.out.at_ hlt
        have hpt := fun (y : S59) (hy : simV y ((scaleV v0) Q[i])) => HPP.out.set hlt hy
        obtain ⟨gq, cq', er, hgq1, hgq2, hgq3⟩ := Kd.R_form HR.out (by omega)
        rw [hll] at er
        obtain ⟨rfl, rfl⟩ : Aq = some ⟨gq, 0, none⟩ ∧ cq = cq' := by injection er with h1 _ h3; exact ⟨h1, h3⟩
        obtain ⟨ce, hcl, hM, hcc, hfr⟩ := Kd.R_elem HR.out ⟨0, 0, 0⟩ (i : Int) i2 (by omega)
        rw [Int.toNat_natCast, hat] at hM
        obtain rfl := k59_openM hM
        rw [Int.toNat_natCast] at hcc
        generalize Q[i] = x at *
        obtain ⟨p0, p1, p2⟩ := x
        have cx0 : wr.cell? ⟨gq, i * 3, none⟩ = some (.float .f32 p0) := hcc 0 _ rfl
        have cx1 : wr.cell? ⟨gq, i * 3 + 1, none⟩ = some (.float .f32 p1) := hcc 1 _ rfl
        have cx2 : wr.cell? ⟨gq, i * 3 + 2, none⟩ = some (.float .f32 p2) := hcc 2 _ rfl
        have HPT := Lib.hid hpt
        have HL := Lib.hid hat
        clear hcl hM hcc hfr er hpt hat HPP
        go_wp2_with fail
        clear cx0 cx1 cx2
        obtain ⟨w7, hw7⟩ : ∃ W, W = wr.alloc (.cells #[.float .f32 p0, .float .f32 p1, .float .f32 p2] 59) := ⟨_, rfl⟩
        have hv7 : Below wr.heap.size wr w7.drew := by rw [hw7]; exact Below.drew (below_alloc (Below.refl _ _) _)
        have CB := Lib.hid (below_step HB.out hv7)
        have C2 := Lib.hid (F2.out.below hv7)
        have C3 := Lib.hid (G2.out.below hv7)
        have CQ := Lib.hid (Kd.R_below HR.out hv7)
        have CT := Lib.hid (Kd.S_below HS.out hv7)
        have CV := Lib.hid (show BoxT w7.drew wr.heap.size 59 p0 p1 p2 by rw [hw7]; exact BoxT.new wr 59 p0 p1 p2)
        rw [← hw7]
        clear hw7 hv7
        generalize wr.heap.size = gb at *
        refine start_ (n := 8) (S := fun w' => w'.cell? ⟨g, 0, none⟩ = some (.slice (some ⟨gq, 0, none⟩) Q.length cq) ∧ w'.cell? ⟨gb, 0, none⟩ = some (.float .f32 p0) ∧ w'.cell? ⟨gb, 1, none⟩ = some (.float .f32 p1) ∧ w'.cell? ⟨gb, 2, none⟩ = some (.float .f32 p2)) (ds := [7]) #[false, false, false, false, false, false, false, false] (by kernel_rfl) rfl rfl ⟨C3.out.c0, CV.out.c0, CV.out.c1, CV.out.c2⟩ (fun hHeld => ?_)
        generalize w7.drew = w13 at CB C2 C3 CQ CT CV hHeld ⊢
        clear HB F2 G2 HR HS
        refine pure_ (i := 0) (N := (some 23)) (v := ?_) (a' := ?_) #[true, false, false, false, false, false, false, false] rfl rfl (by kernel_rfl) (fun _ _ _ h => h) (Or.inl ⟨by rfl, ?_⟩) ?_ ?_
        rotate_left
        · intro w'
          go_simp
          with_reducible rfl
        rotate_left
        · simp only [Act.put, List.setIfInBounds_toArray, List.set_cons_zero, List.set_cons_succ, i64_w, i32_w]; rfl
        refine pure_ (i := 2) (N := (some 25)) (v := ?_) (a' := ?_) #[true, false, true, false, false, false, false, false] rfl rfl (by kernel_rfl) (fun _ _ _ h => h) (Or.inl ⟨by rfl, ?_⟩) ?_ ?_
        rotate_left
        · intro w'
          go_simp
          with_reducible rfl
        rotate_left
        · simp only [Act.put, List.setIfInBounds_toArray, List.set_cons_zero, List.set_cons_succ, i64_w, i32_w]; rfl
        refine pure_ (i := 3) (N := (some 26)) (v := ?_) (a' := ?_) #[true, false, true, true, false, false, false, false] rfl rfl (by kernel_rfl) (fun _ _ _ h => h) (Or.inl ⟨by rfl, ?_⟩) ?_ ?_
        rotate_left
        · intro w'
          go_simp
          with_reducible rfl
        rotate_left
        · simp only [Act.put, List.setIfInBounds_toArray, List.set_cons_zero, List.set_cons_succ, i64_w, i32_w]; rfl
        refine take_ (i := 1) (N := (some 24)) (v := ?_) (a' := ?_) #[true, true, true, true, false, false, false, false] rfl rfl (by kernel_rfl) (fun _ _ _ h => h) (Or.inl ⟨by rfl, ?_⟩) hHeld ?_ ?_
        rotate_left
        · intro w' hSw
          (try dsimp only at hSw)
          go_simp
          with_reducible rfl
        rotate_left
        · simp only [Act.put, List.setIfInBounds_toArray, List.set_cons_zero, List.set_cons_succ, i64_w, i32_w]; rfl
        refine take_ (i := 4) (N := (some 27)) (v := ?_) (a' := ?_) #[true, true, true, true, true, false, false, false] rfl rfl (by kernel_rfl) (fun _ _ _ h => h) (Or.inl ⟨by rfl, ?_⟩) hHeld ?_ ?_
        rotate_left
        · intro w' hSw
          (try dsimp only at hSw)
          go_simp
          with_reducible rfl
        rotate_left
        · simp only [Act.put, List.setIfInBounds_toArray, List.set_cons_zero, List.set_cons_succ, i64_w, i32_w]; rfl
        refine one_ (i := 5) (N := (some 28)) #[true, true, true, true, true, true, false, false] rfl rfl (by kernel_rfl) (by decide) (fun K hK => ?_)
        refine goesV_ Try.func75 (by kernel_rfl) rfl #[.agg #[.float .f32 p0, .float .f32 p1, .float .f32 p2], .pointer (some ⟨gv, 0, none⟩)] (by rfl) rfl rfl (by rfl) (by simp only [List.map_toArray, List.map_cons, List.map_nil, List.append_toArray, List.cons_append, List.nil_append]; first | done | rfl) ?_
        refine (HF.out p0 p1 p2 _ CB.out).mono ?_
        rintro E w14 ⟨p, q, r, rfl, hsv, hb⟩
        refine ⟨_, rfl, ?_⟩
        have D2 := Lib.hid (C2.out.below hb); have D3 := Lib.hid (C3.out.below hb); have DB := Lib.hid (below_step CB.out hb); have DQ := Lib.hid (Kd.R_below CQ.out hb); have DT := Lib.hid (Kd.S_below CT.out hb); have DV := Lib.hid (CV.out.below hb)
        obtain ⟨ce, hcl, hM, hcc, hfr⟩ := Kd.R_elem DQ.out ⟨0, 0, 0⟩ (i : Int) (by omega) (by omega)
        rw [Int.toNat_natCast, HL.out] at hM
        obtain rfl := k59_openM hM
        rw [Int.toNat_natCast] at hcc hfr
        have dx0 : w14.cell? ⟨gq, i * 3, none⟩ = some (.float .f32 p0) := hcc 0 _ rfl
        have dx1 : w14.cell? ⟨gq, i * 3 + 1, none⟩ = some (.float .f32 p1) := hcc 1 _ rfl
        have dx2 : w14.cell? ⟨gq, i * 3 + 2, none⟩ = some (.float .f32 p2) := hcc 2 _ rfl
        have hz0 : w14.frozen? ⟨gq, i * 3, none⟩ = false := hfr 0
        have hz1 : w14.frozen? ⟨gq, i * 3 + 1, none⟩ = false := hfr 1
        have hz2 : w14.frozen? ⟨gq, i * 3 + 2, none⟩ = false := hfr 2
        have HP := Kd.R_seg DQ.out (i : Int) (by omega) (by omega) (seg := [.float .f32 p, .float .f32 q, .float .f32 r]) (j := 0) hcl (by rw [Int.toNat_natCast]; exact hcc) (show 3 ≤ 3 from by decide) (x' := (⟨p, q, r⟩ : S59)) (k59_mkM _ _ _ _) (fun _ hk => hk)
        rw [Int.toNat_natCast] at HP
        have HPH := Lib.hid HP
        have HSV := Lib.hid hsv
        have Z0 := Lib.hid dx0; have Z1 := Lib.hid dx1; have Z2 := Lib.hid dx2; have Z3 := Lib.hid hz0; have Z4 := Lib.hid hz1; have Z5 := Lib.hid hz2
        clear hcl hM hcc hfr HP hsv hb hz0 hz1 hz2 dx0 dx1 dx2 C2 C3 CB CQ CT CV
        refine hK.out _ _ ⟨D3.out.c0, DV.out.c0, DV.out.c1, DV.out.c2⟩ (fun hHeld => ?_)
        clear hK K
        refine norm_ (a' := ?_) ?_ ?_
        rotate_left
        · show Act.put _ (some 28) _ = _
          simp only [Act.put, List.setIfInBounds_toArray, List.set_cons_zero, List.set_cons_succ, i64_w, i32_w]
          rfl
        refine pure_ (i := 6) (N := (some 29)) (v := ?_) (a' := ?_) #[true, true, true, true, true, true, true, false] rfl rfl (by kernel_rfl) (fun _ _ _ h => h) (Or.inl ⟨by rfl, ?_⟩) ?_ ?_
        rotate_left
        · intro w'
          go_simp
          with_reducible rfl
        rotate_left
        · simp only [Act.put, List.setIfInBounds_toArray, List.set_cons_zero, List.set_cons_succ, i64_w, i32_w]; rfl
        refine last_ (i := 7) (N := none) #[true, true, true, true, true, true, true, true] rfl rfl (by kernel_rfl) (by decide) (fun K hK => ?_)
        have dx0 := Z0.out; have dx1 := Z1.out; have dx2 := Z2.out; have hz0 := Z3.out; have hz1 := Z4.out; have hz2 := Z5.out
        refine skip_ (w1 := ?_) (by rfl) rfl ?_ ?_
        rotate_left
        · go_simp
          rfl
        refine hK.out _ _ ?_
        clear hK K
        clear dx0 dx1 dx2 hz0 hz1 hz2
        refine done_ (by kernel_rfl) ?_
        obtain ⟨w16, hw16⟩ : ∃ W, W = (((w14.setCell ⟨gq, i * 3, none⟩ (.float .f32 p)).setCell ⟨gq, i * 3 + 1, none⟩ (.float .f32 q)).setCell ⟨gq, i * 3 + 2, none⟩ (.float .f32 r)) := ⟨_, rfl⟩
        obtain ⟨HP1, HP2⟩ : Kd.R k59 59 w16 w.heap.size (fun _ => True) (.slice (some ⟨gq, 0, none⟩) Q.length cq) (l.set i ⟨p, q, r⟩) ∧ w14.grownBy w16 (some gq) := by rw [hw16]; exact HPH.out
        rw [← hw16]
        have hgb : w.heap.size ≤ gq := Kd.R_base DQ.out gq (by simp [Value.ownBlock])
        have E2 := Lib.hid (show BoxAt w16 _ _ _ _ from blk_grown D2.out HP2 (Kd.R_ne DQ.out D2.out (by decide))); have E3 := Lib.hid (show BoxAt w16 _ _ _ _ from blk_grown D3.out HP2 (Kd.R_ne DQ.out D3.out (by decide)))
        have ET := Lib.hid (Kd.S_over' DT.out (Kd.R_typed DQ.out) (by decide) HP2)
        have EB := Lib.hid (Below.grown DB.out HP2 (below_size DB.out) (fun k hk => by cases hk; omega))
        have EP := Lib.hid (HPT.out _ HSV.out)
        have EQ := Lib.hid HP1
        clear HP1 HP2 hw16 HPH HSV Z0 Z1 Z2 Z3 Z4 Z5 D2 D3 DB DQ DT HPT HL DV
        go_wp2_with fail
        exact ⟨⟨i + 1, _, hlt, by simp, EB, E2, E3, EP, EQ, ET⟩, by simp [intOf]; omega⟩
      · obtain rfl : i = Q.length := by omega
        have gd0 := G2.out.c0
        have gd1 := G2.out.c1
        have f0 := F2.out.c0
        have f1 := F2.out.c1
        have z0 := blk_frozen F2.out 0
        have z1 := blk_frozen F2.out 1
        go_wp2_with fail
        ((try simp only [Exit.inBlock, Exit.then]); refine bodyPost_ret (by simp [results, Try.results74, go_sem, f0, f1, setCell_same_of, World.cell?_setCell_other]; try rfl) rfl ?_)
        have hml : (Q.map (scaleV v0)).length = Q.length := List.length_map _
        refine ⟨l, Aq, cq, At, ct, HPP.out.all_, by rw [hml], ⟨?_, ?_⟩, below_set (below_set HB.out (by omega)) (by omega)⟩
        · rw [hml]; exact R_in (R_boxset (R_boxset HR.out F2.out (by decide) 0 _) (blk_put F2.out 0 _ rfl) (by decide) 1 _)
        · exact S_in (Kd.S_set (Kd.S_set HS.out F2.out (by decide) 0 _) (blk_put F2.out 0 _ rfl) (by decide) 1 _)
  · have hv1 := Bool.eq_false_iff.2 hv
    have hr : scaleR Q T v0 = ([], [], false) := by unfold scaleR; rw [if_neg hv]
    rw [hr]
    rw [hv1] at HV
    clear hr hv hv1 hQ hT hq hqt hV
    go_enter Try.func74, Try.ntmps74
    go_wp2_with (first
      | (go_at_call 41; refine (HV.out _ B0.out).mono ?_; rintro E w1 ⟨rfl, hb⟩; have B1 := Lib.hid (below_step B0.out hb); have F1 := F0.out.below hb; have f0 := F1.c0; have f1 := F1.c1; have z0 := blk_frozen F1 0; have z1 := blk_frozen F1 1; clear hb hc0 hc1)
      | fail)
    ((try simp only [Exit.inBlock, Exit.then]); refine bodyPost_ret (by simp [results, Try.results74, go_sem, f0, f1, setCell_same_of, World.cell?_setCell_other]; try rfl) rfl ?_)
    exact ⟨[], none, 0, none, 0, simP_nil, rfl, ⟨Kd.R_nil _ _ _ _ _, Kd.S_nil _ _ _ _ _⟩, below_set (below_set B1.out (by omega)) (by omega)⟩

set_option maxHeartbeats 1000000 in
theorem impl_ScaleMesh (A : Option Addr) (c : Nat) (Q : List S59) (B : Option Addr) (e : Nat) (T : List (List Int)) (v0 : Nat) (w : World) (hQ : Kd.C k59 w A Q.length Q) (hq : Q.length ≤ c) (hT : Kd.C (Kd.slice 2 (Kd.int .i64)) w B T.length T) (hqt : T.length ≤ e) (hok : ∀ x ∈ Q, okV x) (wv0 : v0 < 2 ^ 32) :
    Calls Try.prog 30 #[.agg #[.slice A Q.length c, .slice B T.length e], .float .f32 v0] w (AnsMs w (scaleR Q T v0).1 (scaleR Q T v0).2.1 (scaleR Q T v0).2.2) := by
  have e1 : (w.alloc (.cells #[.slice A Q.length c, .slice B T.length e] 30)).heap.size = w.heap.size + 1 := by simp
  have e2 : ((w.alloc (.cells #[.slice A Q.length c, .slice B T.length e] 30)).alloc (.cells #[.float .f32 v0] 42)).heap.size = w.heap.size + 1 + 1 := by simp
  have b1 := below_alloc (Below.refl (w.alloc (.cells #[.slice A Q.length c, .slice B T.length e] 30)).heap.size (w.alloc (.cells #[.slice A Q.length c, .slice B T.length e] 30))) (.cells #[.float .f32 v0] 42)
  have b2 := below_alloc (Below.refl ((w.alloc (.cells #[.slice A Q.length c, .slice B T.length e] 30)).alloc (.cells #[.float .f32 v0] 42)).heap.size ((w.alloc (.cells #[.slice A Q.length c, .slice B T.length e] 30)).alloc (.cells #[.float .f32 v0] 42))) (.cells #[.slice none 0 0, .slice none 0 0] 30)
  have hx := ((BoxAt.new w 30 (.slice A Q.length c) (.slice B T.length e)).below b1).below b2
  have hvb : Box1 (((w.alloc (.cells #[.slice A Q.length c, .slice B T.length e] 30)).alloc (.cells #[.float .f32 v0] 42)).alloc (.cells #[.slice none 0 0, .slice none 0 0] 30)) (w.heap.size + 1) 42 v0 := by
    have := (show Box1 ((w.alloc (.cells #[.slice A Q.length c, .slice B T.length e] 30)).alloc (.cells #[.float .f32 v0] 42)) (w.alloc (.cells #[.slice A Q.length c, .slice B T.length e] 30)).heap.size 42 v0 from heap_alloc_new (w.alloc (.cells #[.slice A Q.length c, .slice B T.length e] 30)) (.cells #[.float .f32 v0] 42)).below b2
    rw [e1] at this
    exact this
  have hf := BoxAt.new ((w.alloc (.cells #[.slice A Q.length c, .slice B T.length e] 30)).alloc (.cells #[.float .f32 v0] 42)) 30 (.slice none 0 0) (.slice none 0 0)
  rw [e2] at hf
  have hb0 : Below w.heap.size w (((w.alloc (.cells #[.slice A Q.length c, .slice B T.length e] 30)).alloc (.cells #[.float .f32 v0] 42)).alloc (.cells #[.slice none 0 0, .slice none 0 0] 30)) := below_alloc (below_alloc (below_alloc (Below.refl _ _) _) _) _
  have HP := Lib.hid (impl_placesBy_Scale A c Q B e T v0 (w.heap.size + 1) (((w.alloc (.cells #[.slice A Q.length c, .slice B T.length e] 30)).alloc (.cells #[.float .f32 v0] 42)).alloc (.cells #[.slice none 0 0, .slice none 0 0] 30)) (Kd.C_below hQ hb0) hq (Kd.C_below hT hb0) hqt hvb)
  have F0 := Lib.hid hf; have B0 := Lib.hid hb0
  have hc0 := hx.c0
  have hc1 := hx.c1
  generalize scaleR Q T v0 = ans at *
  obtain ⟨P', R, b⟩ := ans
  dsimp only at HP ⊢
  clear hx hvb hf hb0 b1 b2 e1 e2 hQ hq hT hqt hok wv0
  go_enter Try.func30, Try.ntmps30
  go_wp2_with (first
    | (go_at_call 74; refine HP.out.mono ?_; rintro E w1 ⟨P1, A1, c1, B1, e1, hs, rfl, hx, hb⟩; have K1 := Lib.hid (below_step B0.out hb); have hF1 := F0.out.below hb; have F1 := Lib.hid hF1; have X1 := Lib.hid hx; have S1 := Lib.hid hs; have f0 := hF1.c0; have f1 := hF1.c1; have z0 := blk_frozen hF1 0; have z1 := blk_frozen hF1 1; clear hb hx hF1 hs hc0 hc1)
    | fail)
  ((try simp only [Exit.inBlock, Exit.then]); refine bodyPost_ret (by simp [results, Try.results30, go_sem, f0, f1, setCell_same_of, World.cell?_setCell_other]; try rfl) rfl ?_)
  have hsz := F0.out.lt
  refine ⟨P1, A1, c1, B1, e1, S1.out, rfl, ⟨?_, ?_⟩, below_set (below_set K1.out (by omega)) (by omega)⟩
  · exact R_in (Kd.R_lower (R_boxset (R_boxset (Kd.R_mono X1.out.1 (fun _ _ => trivial)) F1.out (by decide) 0 _) (blk_put F1.out 0 _ rfl) (by decide) 1 _) (by omega))
  · exact S_in (Kd.S_lower (Kd.S_set (Kd.S_set (Kd.S_mono X1.out.2 (fun _ _ => trivial)) F1.out (by decide) 0 _) (blk_put F1.out 0 _ rfl) (by decide) 1 _) (by omega))

end Go.Proofs.Ytnibobbfepdeiaa
namespace Go.Proofs.Ytnibobbfepdeiaa
set_option linter.unusedSimpArgs false
open Fl Go.RowKit Go.Proofs.YtnibobbfepdeiaaW.PrintWords Go.Proofs.YtnibobbfepdeiaaW.PrintLast Go.Proofs.YtnibobbfepdeiaaW.PrintMore Go.Proofs.Ytnibobbfepdeiaa.PMesh Msh
set_option linter.unusedVariables false

set_option maxHeartbeats 4000000 in
set_option maxRecDepth 100000 in
theorem impl_JoinMeshes (A : Option Addr) (c : Nat) (Q : List S59) (B : Option Addr) (e : Nat) (T : List (List Int)) (A' : Option Addr) (c' : Nat) (Q' : List S59) (B' : Option Addr) (e' : Nat) (T' : List (List Int)) (w : World) (hQ : Kd.C k59 w A Q.length Q) (hq : Q.length ≤ c) (hT : Kd.C (Kd.slice 2 (Kd.int .i64)) w B T.length T) (hqt : T.length ≤ e) (hQ' : Kd.C k59 w A' Q'.length Q') (hq' : Q'.length ≤ c') (hT' : Kd.C (Kd.slice 2 (Kd.int .i64)) w B' T'.length T') (hqt' : T'.length ≤ e') :
    Calls Try.prog 31 #[.agg #[.slice A Q.length c, .slice B T.length e], .agg #[.slice A' Q'.length c', .slice B' T'.length e']] w (AnsM w (joinR Q T Q' T').1 (joinR Q T Q' T').2.1 (joinR Q T Q' T').2.2) := by
  obtain ⟨hx0, hy0, hf0, hb0⟩ := boxes3 w 30 (.slice A Q.length c) (.slice B T.length e) (.slice A' Q'.length c') (.slice B' T'.length e') (.slice none 0 0) (.slice none 0 0)
  have X0 := Lib.hid hx0; have Y0 := Lib.hid hy0; have F0 := Lib.hid hf0; have B0 := Lib.hid hb0
  have hc0 := hx0.c0
  have hc1 := hx0.c1
  clear hx0 hy0 hf0 hb0
  have HV := Lib.hid (fun (W : World) (h : Below w.heap.size w W) => impl_ValidMesh.calls 2097156 A c Q B e T _ W (Kd.C_below hQ h) hq (Kd.C_below hT h) hqt (valid_f Q T _ (by omega)))
  have HV2 := Lib.hid (fun (W : World) (h : Below w.heap.size w W) => impl_ValidMesh.calls 2097156 A' c' Q' B' e' T' _ W (Kd.C_below hQ' h) hq' (Kd.C_below hT' h) hqt' (valid_f Q' T' _ (by omega)))
  by_cases hv : validB Q.length T = true
  · by_cases hv' : validB Q'.length T' = true
    · obtain ⟨a1, a2, a3⟩ := valid_rows hv
      obtain ⟨b1, b2, b3⟩ := valid_rows hv'
      have hr : joinR Q T Q' T' = joinV (Q ++ Q') (joinT T T' Q.length T'.length) := by unfold joinR; rw [if_pos ⟨hv, hv'⟩]
      rw [hr]
      rw [hv] at HV
      rw [hv'] at HV2
      have HC := Lib.hid (fun (W : World) (h : Below w.heap.size w W) => impl_copyMesh.calls 1048578 A c Q B e T Q T W (Kd.C_below hQ h) hq (Kd.C_below hT h) hqt (copy_f Q T (by omega) (by omega) (fun t ht => by have := a3 t ht; omega)))
      have H3 := Lib.hid b3
      have HQ2 := Lib.hid (fun (W : World) (h : Below w.heap.size w W) => Kd.C_below hQ' h)
      have HTW := Lib.hid hT'
      clear hr hv hv' hQ hT hq hqt hQ' hT' hq' hqt' a3 b3
      obtain ⟨P, hP⟩ : ∃ P, P = Q ++ Q' := ⟨_, rfl⟩
      rw [← hP]
      have hPl : P.length ≤ 128 := by rw [hP, List.length_append]; omega
      have HP := Lib.hid hP
      clear hP
      go_enter Try.func31, Try.ntmps31
      go_wp2_with (first
        | (go_at_call 41; first | (refine (HV2.out _ B1.out).mono ?_; rintro E w2 ⟨rfl, hb⟩; have B2 := Lib.hid (below_step B1.out hb); have X2 := Lib.hid (X1.out.below hb); have Y2 := Lib.hid (Y1.out.below hb); have F2 := Lib.hid (F1.out.below hb); clear yc0 yc1;  clear hb) | (refine (HV.out _ B0.out).mono ?_; rintro E w1 ⟨rfl, hb⟩; have B1 := Lib.hid (below_step B0.out hb); have X1 := Lib.hid (X0.out.below hb); have Y1 := Lib.hid (Y0.out.below hb); have F1 := Lib.hid (F0.out.below hb); have yc0 := Y1.out.c0; have yc1 := Y1.out.c1; clear hc0 hc1;  clear hb))
        | fail)
      have CB := Lib.hid (Below.drew B2.out); have CX : Hid (BoxAt w2.drew w.heap.size 30 (.slice A Q.length c) (.slice B T.length e)) := X2; have CY : Hid (BoxAt w2.drew (w.heap.size + 1) 30 (.slice A' Q'.length c') (.slice B' T'.length e')) := Y2; have CF : Hid (BoxAt w2.drew (w.heap.size + 1 + 1) 30 (.slice none 0 0) (.slice none 0 0)) := F2
      refine start_ (n := 8) (S := fun w' => w'.cell? ⟨w.heap.size, 0, none⟩ = some (.slice A Q.length c) ∧ w'.cell? ⟨w.heap.size, 1, none⟩ = some (.slice B T.length e)) (ds := []) #[false, false, false, false, false, false, false, false] (by kernel_rfl) rfl rfl ⟨CX.out.c0, CX.out.c1⟩ (fun hHeld => ?_)
      generalize w2.drew = w13 at CB CX CY CF hHeld ⊢
      clear B2 X2 Y2 F2 B1 X1 Y1 F1 B0 X0 Y0 F0
      refine pure_ (i := 2) (N := (some 21)) (v := ?_) (a' := ?_) #[false, false, true, false, false, false, false, false] rfl rfl (by kernel_rfl) (fun _ _ _ h => h) (Or.inl ⟨by rfl, ?_⟩) ?_ ?_
      rotate_left
      · intro w'
        go_simp
        with_reducible rfl
      rotate_left
      · simp only [Act.put, List.setIfInBounds_toArray, List.set_cons_zero, List.set_cons_succ, i64_w, i32_w]; rfl
      refine take_ (i := 0) (N := (some 19)) (v := ?_) (a' := ?_) #[true, false, true, false, false, false, false, false] rfl rfl (by kernel_rfl) (fun _ _ _ h => h) (Or.inl ⟨by rfl, ?_⟩) hHeld ?_ ?_
      rotate_left
      · intro w' hSw
        (try dsimp only at hSw)
        go_simp
        with_reducible rfl
      rotate_left
      · simp only [Act.put, List.setIfInBounds_toArray, List.set_cons_zero, List.set_cons_succ, i64_w, i32_w]; rfl
      refine take_ (i := 3) (N := (some 22)) (v := ?_) (a' := ?_) #[true, false, true, true, false, false, false, false] rfl rfl (by kernel_rfl) (fun _ _ _ h => h) (Or.inl ⟨by rfl, ?_⟩) hHeld ?_ ?_
      rotate_left
      · intro w' hSw
        (try dsimp only at hSw)
        go_simp
        with_reducible rfl
      rotate_left
      · simp only [Act.put, List.setIfInBounds_toArray, List.set_cons_zero, List.set_cons_succ, i64_w, i32_w]; rfl
      refine pure_ (i := 4) (N := (some 23)) (v := ?_) (a' := ?_) #[true, false, true, true, true, false, false, false] rfl rfl (by kernel_rfl) (fun _ _ _ h => h) (Or.inl ⟨by rfl, ?_⟩) ?_ ?_
      rotate_left
      · intro w'
        go_simp
        with_reducible rfl
      rotate_left
      · simp only [Act.put, List.setIfInBounds_toArray, List.set_cons_zero, List.set_cons_succ, i64_w, i32_w]; rfl
      refine join_ (σ := Value × Value × Nat) 2 #[true, true, true, true, true, true, false, false] (fun s_ => [(20, .agg #[s_.1, s_.2.1]), (6, .pointer (some ⟨s_.2.2, 0, none⟩))]) (fun s_ w' => BoxAt w' w.heap.size 30 (.slice A Q.length c) (.slice B T.length e) ∧ Kd.R k59 59 w' w.heap.size (fun _ => True) s_.1 Q ∧ Kd.S (Kd.slice 2 (Kd.int .i64)) 34 w' w.heap.size (fun _ => True) s_.2.1 T ∧ (BoxAt w' (w.heap.size + 1) 30 (.slice A' Q'.length c') (.slice B' T'.length e')) ∧ (BoxAt w' (w.heap.size + 1 + 1) 30 (.slice none 0 0) (.slice none 0 0)) ∧ BoxAt w' s_.2.2 30 (.slice none 0 0) (.slice none 0 0) ∧ w.heap.size + 1 + 1 < s_.2.2 ∧ Below w.heap.size w w') ?_ ?_
      rotate_left
      · intro hCont
        refine two_ (i := 1) (j := 5) (Ni := some 20) (Nj := some 6) #[true, true, true, true, true, false, false, false] #[true, false, true, true, true, true, false, false] rfl rfl rfl rfl (by kernel_rfl) (by decide) (by decide) (fun K hK => ?_) (fun K hK => ?_)
        · skip
          refine goes_ Try.func71 (by kernel_rfl) rfl #[.agg #[.slice A Q.length c, .slice B T.length e]] (by rfl) rfl rfl (by (try simp only [List.map_toArray, List.map_cons, List.map_nil]); first | done | rfl) ?_
          refine (HC.out _ CB.out).mono ?_
          rintro E w3 ⟨v0, v1, rfl, hR, hS, hb⟩
          refine ⟨_, rfl, ?_⟩
          have DB := Lib.hid (below_step CB.out hb); have DX := Lib.hid (CX.out.below hb); have DY := Lib.hid (CY.out.below hb); have DF := Lib.hid (CF.out.below hb); have DQ := Lib.hid (Kd.R_lower hR (below_size CB.out)); have DT := Lib.hid (Kd.S_lower hS (below_size CB.out)); clear hR hS hb
          refine hK.out _ _ ⟨DX.out.c0, DX.out.c1⟩ (fun hHeld => ?_)
          clear hK K
          refine norm_ (a' := ?_) ?_ ?_
          rotate_left
          · show Act.put _ (some 20) _ = _
            simp only [Act.put, List.setIfInBounds_toArray, List.set_cons_zero, List.set_cons_succ, i64_w, i32_w]
            rfl
          refine one_ (i := 5) (N := (some 6)) #[true, true, true, true, true, true, false, false] rfl rfl (by kernel_rfl) (by decide) (fun K hK => ?_)
          refine box_step ?hg (N := 6) ?hd (cs := #[.slice none 0 0, .slice none 0 0]) (t := 30) ?hr ?_; (case hd => rfl); (case hg => rfl); (case hr => first | (go_simp; done) | (go_simp; rfl))
          intro g hg w4 hbox hb
          have hX := DX.out.below hb
          refine hK.out _ _ ⟨hX.c0, hX.c1⟩ (fun hHeld => ?_)
          clear hK K
          refine norm_ (a' := ?_) ?_ ?_
          rotate_left
          · show Act.put _ (some 6) _ = _
            simp only [Act.put, List.setIfInBounds_toArray, List.set_cons_zero, List.set_cons_succ, i64_w, i32_w]
            rfl
          exact norm_ (by simp only [putAll, Act.put, List.setIfInBounds_toArray, List.set_cons_zero, List.set_cons_succ]) (hCont (v0, v1, g) _ ⟨hX, Kd.R_mono (Kd.R_below DQ.out hb) (fun _ _ => trivial), Kd.S_mono (Kd.S_below DT.out hb) (fun _ _ => trivial), DY.out.below hb, DF.out.below hb, hbox, by have := DF.out.lt; show _ < g; omega, below_step DB.out hb⟩)
        · skip
          refine box_step ?hg (N := 6) ?hd (cs := #[.slice none 0 0, .slice none 0 0]) (t := 30) ?hr ?_; (case hd => rfl); (case hg => rfl); (case hr => first | (go_simp; done) | (go_simp; rfl))
          intro g hg w3 hbox hb
          have DB := Lib.hid (below_step CB.out hb); have DX := Lib.hid (CX.out.below hb); have DY := Lib.hid (CY.out.below hb); have DF := Lib.hid (CF.out.below hb); have hlt_ := CF.out.lt; clear hb
          refine hK.out _ _ ⟨DX.out.c0, DX.out.c1⟩ (fun hHeld => ?_)
          clear hK K
          refine norm_ (a' := ?_) ?_ ?_
          rotate_left
          · show Act.put _ (some 6) _ = _
            simp only [Act.put, List.setIfInBounds_toArray, List.set_cons_zero, List.set_cons_succ, i64_w, i32_w]
            rfl
          refine one_ (i := 1) (N := (some 20)) #[true, true, true, true, true, true, false, false] rfl rfl (by kernel_rfl) (by decide) (fun K hK => ?_)
          refine goes_ Try.func71 (by kernel_rfl) rfl #[.agg #[.slice A Q.length c, .slice B T.length e]] (by rfl) rfl rfl (by (try simp only [List.map_toArray, List.map_cons, List.map_nil]); first | done | rfl) ?_
          refine (HC.out _ DB.out).mono ?_
          rintro E w4 ⟨v0, v1, rfl, hR, hS, hb⟩
          refine ⟨_, rfl, ?_⟩
          have hX := DX.out.below hb
          refine hK.out _ _ ⟨hX.c0, hX.c1⟩ (fun hHeld => ?_)
          clear hK K
          refine norm_ (a' := ?_) ?_ ?_
          rotate_left
          · show Act.put _ (some 20) _ = _
            simp only [Act.put, List.setIfInBounds_toArray, List.set_cons_zero, List.set_cons_succ, i64_w, i32_w]
            rfl
          exact norm_ (by simp only [putAll, Act.put, List.setIfInBounds_toArray, List.set_cons_zero, List.set_cons_succ]) (hCont (v0, v1, g) _ ⟨hX, Kd.R_mono (Kd.R_lower hR (below_size DB.out)) (fun _ _ => trivial), Kd.S_mono (Kd.S_lower hS (below_size DB.out)) (fun _ _ => trivial), DY.out.below hb, DF.out.below hb, blk_below hbox hb, by show _ < g; omega, below_step DB.out hb⟩)
      rintro ⟨v0, v1, g⟩ w4 ⟨hX, hR, hS, hY, hF, hG, hgl, hb⟩
      obtain ⟨Aq, cq, rfl⟩ := Kd.R_slice hR
      obtain ⟨At, ct, rfl⟩ := Kd.S_slice hS
      replace hgl : w.heap.size + 1 + 1 < g := hgl
      replace hG : BoxAt w4 g 30 (.slice none 0 0) (.slice none 0 0) := hG
      refine norm_ (a' := ?_) ?_ ?_
      rotate_left
      · simp only [putAll, Act.put, List.setIfInBounds_toArray, List.set_cons_zero, List.set_cons_succ]; rfl
      have hg0 := hG.c0; have hg1 := hG.c1; have hz0 := blk_frozen hG 0; have hz1 := blk_frozen hG 1
      have hX1 := blk_far (blk_far hX (p := ⟨g, 0, none⟩) (by show w.heap.size ≠ g; omega) (.slice Aq Q.length cq)) (p := ⟨g, 1, none⟩) (by show w.heap.size ≠ g; omega) (.slice At T.length ct)
      refine one_ (i := 6) (N := none) #[true, true, true, true, true, true, true, false] rfl rfl (by kernel_rfl) (by decide) (fun K hK => ?_)
      refine skip_ (w1 := ?_) (by rfl) rfl ?_ ?_
      rotate_left
      · go_simp
        rfl
      refine hK.out _ _ ⟨BoxAt.c0 hX1, BoxAt.c1 hX1⟩ (fun hHeld => ?_)
      clear hK K
      have hY' := hY; have hF' := hF; have hb' := hb
      refine pure_ (i := 7) (N := (some 7)) (v := ?_) (a' := ?_) #[true, true, true, true, true, true, true, true] rfl rfl (by kernel_rfl) (fun _ _ _ h => h) (Or.inl ⟨by rfl, ?_⟩) ?_ ?_
      rotate_left
      · intro w'
        go_simp
        with_reducible rfl
      rotate_left
      · simp only [Act.put, List.setIfInBounds_toArray, List.set_cons_zero, List.set_cons_succ, i64_w, i32_w]; rfl
      refine done_ (by kernel_rfl) ?_
      obtain ⟨wq, hwq⟩ : ∃ W, W = ((w4.setCell ⟨g, 0, none⟩ (.slice Aq Q.length cq)).setCell ⟨g, 1, none⟩ (.slice At T.length ct)) := ⟨_, rfl⟩
      rw [← hwq]
      have B4 := Lib.hid (show Below w.heap.size w wq by rw [hwq]; exact below_set (below_set hb (by omega)) (by omega))
      have Y4 := Lib.hid (show BoxAt wq (w.heap.size + 1) 30 (.slice A' Q'.length c') (.slice B' T'.length e') by rw [hwq]; exact blk_far (blk_far hY (by show w.heap.size + 1 ≠ g; omega) _) (by show w.heap.size + 1 ≠ g; omega) _)
      have F4 := Lib.hid (show BoxAt wq (w.heap.size + 1 + 1) 30 (.slice none 0 0) (.slice none 0 0) by rw [hwq]; exact blk_far (blk_far hF (by show w.heap.size + 1 + 1 ≠ g; omega) _) (by show w.heap.size + 1 + 1 ≠ g; omega) _)
      have G4 := Lib.hid (show BoxAt wq g 30 (.slice Aq Q.length cq) (.slice At T.length ct) by rw [hwq]; exact blk_put (blk_put hG 0 _ rfl) 1 _ rfl)
      have Q4 := Lib.hid (show Kd.R k59 59 wq w.heap.size (fun _ => True) (.slice Aq Q.length cq) Q by rw [hwq]; exact R_boxset (R_boxset hR hG (by decide) 0 _) (blk_put hG 0 _ rfl) (by decide) 1 _)
      have T4 := Lib.hid (show Kd.S (Kd.slice 2 (Kd.int .i64)) 34 wq w.heap.size (fun _ => True) (.slice At T.length ct) T by rw [hwq]; exact Kd.S_set (Kd.S_set hS hG (by decide) 0 _) (blk_put hG 0 _ rfl) (by decide) 1 _)
      clear hwq hX hX1 hR hS hY hF hG hb hg0 hg1 hz0 hz1 hY' hF' hb'
      have gc0 := G4.out.c0; have yd0 := Y4.out.c0
      go_wp2_with (first
        | ((with_reducible refine gate_builtin (b := .append) (xs := #[.tmp 25, .tmp 27]) rfl ?_); at_builtin; refine Kd.R_append_rows k59 (w0 := w) w.heap.size rfl (.tmp 25) (.tmp 27) 28 59 (.agg #[(.float .f32 0), (.float .f32 0), (.float .f32 0)]) 12 rfl Try.underlying28 info59 rfl (by decide) (by omega) (.slice Aq Q.length cq) Q Q' _ _ _ (fun _ => True) (fun _ => False) rfl rfl ?aO ?aR (fun _ _ h => h) (fun _ h => h.elim) ?aF ?aB ?aS ?aL ?_; (case aR => exact HQ2.out _ B4.out); (case aB => exact B4.out); (case aF => exact (fun _ _ => trivial)); (case aO => exact Q4.out); (case aS => exact below_size B4.out); (case aL => omega); intro v3 w5 ho hb hg_ hat; rw [← HP.out] at ho; have G5 := Lib.hid (show BoxAt w5 g 30 _ _ from blk_grown G4.out hg_ (Kd.R_ne Q4.out G4.out (by decide))); have Y5 := Lib.hid (show BoxAt w5 (w.heap.size + 1) 30 (.slice A' Q'.length c') (.slice B' T'.length e') from blk_grown Y4.out hg_ (Kd.R_ne Q4.out Y4.out (by decide))); have F5 := Lib.hid (show BoxAt w5 (w.heap.size + 1 + 1) 30 (.slice none 0 0) (.slice none 0 0) from blk_grown F4.out hg_ (Kd.R_ne Q4.out F4.out (by decide))); have T5 := Lib.hid (Kd.S_over' T4.out (Kd.R_typed Q4.out) (by decide) hg_); obtain ⟨Ar, cr, rfl⟩ := Kd.R_slice ho; have Q5 := Lib.hid ho; have B5 := Lib.hid hb; clear ho hb hg_ hat gc0 yd0; have gs0 := G5.out.c0; have gz0 := blk_frozen G5.out 0
           have Y6 := Lib.hid (show BoxAt (w5.setCell ⟨g, 0, none⟩ (.slice Ar P.length cr)) (w.heap.size + 1) 30 (.slice A' Q'.length c') (.slice B' T'.length e') from blk_far Y5.out (by show w.heap.size + 1 ≠ g; omega) _)
           have ye1 := Y6.out.c1)
        | fail)
      obtain ⟨w6, hw6⟩ : ∃ W, W = w5.setCell ⟨g, 0, none⟩ (.slice Ar P.length cr) := ⟨_, rfl⟩
      have B6 := Lib.hid (show Below w.heap.size w w6 by rw [hw6]; exact below_set B5.out (by omega))
      have F6 := Lib.hid (show BoxAt w6 (w.heap.size + 1 + 1) 30 (.slice none 0 0) (.slice none 0 0) by rw [hw6]; exact blk_far F5.out (by show w.heap.size + 1 + 1 ≠ g; omega) _)
      have G6 := Lib.hid (show BoxAt w6 g 30 (.slice Ar P.length cr) (.slice At T.length ct) by rw [hw6]; exact blk_put G5.out 0 _ rfl)
      have Q6 := Lib.hid (show Kd.R k59 59 w6 w.heap.size (fun _ => True) (.slice Ar P.length cr) P by rw [hw6]; exact R_boxset Q5.out G5.out (by decide) 0 _)
      have T6 := Lib.hid (show Kd.S (Kd.slice 2 (Kd.int .i64)) 34 w6 w.heap.size (fun _ => True) (.slice At T.length ct) (joinT T T' Q.length 0) by rw [hw6, joinT_zero]; exact Kd.S_set T5.out G5.out (by decide) 0 _)
      rw [← hw6] at Y6 ye1 ⊢
      clear hw6 B5 F5 G5 Q5 T5 Y5 gs0 gz0 B4 F4 G4 Q4 T4 Y4
      go_loopw [33] (fun k wr => ∃ (i : Nat) (u : Value), i ≤ T'.length ∧ k = .int .i64 (i : Int) ∧ Hid (Below w.heap.size w wr) ∧ Hid (BoxAt wr (w.heap.size + 1 + 1) 30 (.slice none 0 0) (.slice none 0 0)) ∧ Hid (BoxAt wr (w.heap.size + 1) 30 (.slice A' Q'.length c') (.slice B' T'.length e')) ∧ Hid (BoxAt wr g 30 (.slice Ar P.length cr) u) ∧ Hid (Kd.R k59 59 wr w.heap.size (fun _ => True) (.slice Ar P.length cr) P) ∧ Hid (Kd.S (Kd.slice 2 (Kd.int .i64)) 34 wr w.heap.size (fun _ => True) u (joinT T T' Q.length i))) (fun k _ => T'.length - (intOf k).toNat)
      case atStart => exact ⟨0, _, Nat.zero_le _, rfl, B6, F6, Y6, G6, Q6, T6⟩
      case round =>
        clear B6 F6 G6 Q6 T6 Y6 ye1
        obtain ⟨i, u, hi, rfl, HB, F2, Y2, G2, HR, HS⟩ := hrel
        by_cases hlt : i < T'.length
        · have i1 : (i : Int) < (T'.length : Int) := by omega
          have i2 : (0 : Int) ≤ (i : Int) := by omega
          have i3 : (i : Int) < 9223372036854775807 := by omega
          obtain ⟨ba, C, cc, rfl, tc, hcc, hC⟩ := at_L3 HTW.out (i : Int) (by omega) (by omega)
          rw [rdL T' i hlt] at tc hcc hC
          rw [Int.toNat_natCast] at tc
          have htk := joinT_step T T' Q.length i hlt
          have hlj : Hid ((joinT T T' Q.length i).length ≤ 256) := Lib.hid (by have := joinT_len T T' Q.length i hi; omega)
          have h3 := H3.out T'[i] (List.getElem_mem hlt)
          generalize T'[i] = t at *
          obtain ⟨x, y, z, rfl⟩ := tri3 h3
          obtain ⟨ca, rfl, tx0⟩ := Kd.at_int hC 0 (by omega) (by omega)
          obtain ⟨_, e1_, ty0⟩ := Kd.at_int hC 1 (by omega) (by omega)
          obtain ⟨_, e2_, tz0⟩ := Kd.at_int hC 2 (by omega) (by omega)
          cases e1_; cases e2_
          replace tx0 : w.cell? ca = some (.int .i64 x) := tx0
          replace ty0 : w.cell? ⟨ca.block, ca.off + 1, none⟩ = some (.int .i64 y) := ty0
          replace tz0 : w.cell? ⟨ca.block, ca.off + 2, none⟩ = some (.int .i64 z) := tz0
          have HTK := Lib.hid htk
          clear hC hcc htk
          have yd1 := Y2.out.c1
          have gs1 := G2.out.c1
          replace tc : w.cell? (ba.add i) = some (.slice (some ca) 3 cc) := tc
          replace tc := oldc HB.out tc
          rw [show ([x, y, z] : List Int).length = 3 from rfl] at *
          go_wp2_with fail
          clear yd1 tc
          have CB := Lib.hid (Below.drew HB.out)
          have C2 : Hid (BoxAt wr.drew (w.heap.size + 1 + 1) 30 (.slice none 0 0) (.slice none 0 0)) := F2
          have CY := Lib.hid (show BoxAt wr.drew (w.heap.size + 1) 30 _ _ from Y2.out)
          have C3 : Hid (BoxAt wr.drew g 30 (.slice Ar P.length cr) u) := G2
          have CQ := Lib.hid (Kd.R_drew HR.out)
          have CT := Lib.hid (Kd.S_drew HS.out)
          have tx := tx0; have ty := ty0; have tz := tz0
          refine start_ (n := 22) (S := fun w' => w'.cell? ⟨g, 1, none⟩ = some u ∧ w'.cell? ca = some (.int .i64 x) ∧ w'.cell? ⟨ca.block, ca.off + 1, none⟩ = some (.int .i64 y) ∧ w'.cell? ⟨ca.block, ca.off + 2, none⟩ = some (.int .i64 z)) (ds := [21]) #[false, false, false, false, false, false, false, false, false, false, false, false, false, false, false, false, false, false, false, false, false, false] (by kernel_rfl) rfl rfl ⟨(blk_cell C3.out 1).trans rfl, oldc CB.out tx, oldc CB.out ty, oldc CB.out tz⟩ (fun hHeld => ?_)
          clear gs1 tx0 ty0 tz0
          generalize wr.drew = w13 at CB C2 C3 CY CQ CT hHeld ⊢
          clear HB F2 G2 Y2 HR HS
          refine pure_ (i := 0) (N := (some 37)) (v := ?_) (a' := ?_) #[true, false, false, false, false, false, false, false, false, false, false, false, false, false, false, false, false, false, false, false, false, false] rfl rfl (by kernel_rfl) (fun _ _ _ h => h) (Or.inl ⟨by rfl, ?_⟩) ?_ ?_
          rotate_left
          · intro w'
            go_simp
            with_reducible rfl
          rotate_left
          · simp only [Act.put, List.setIfInBounds_toArray, List.set_cons_zero, List.set_cons_succ, i64_w, i32_w]; rfl
          refine pure_ (i := 2) (N := (some 39)) (v := ?_) (a' := ?_) #[true, false, true, false, false, false, false, false, false, false, false, false, false, false, false, false, false, false, false, false, false, false] rfl rfl (by kernel_rfl) (fun _ _ _ h => h) (Or.inl ⟨by rfl, ?_⟩) ?_ ?_
          rotate_left
          · intro w'
            go_simp
            with_reducible rfl
          rotate_left
          · simp only [Act.put, List.setIfInBounds_toArray, List.set_cons_zero, List.set_cons_succ, i64_w, i32_w]; rfl
          refine pure_ (i := 3) (N := (some 40)) (v := ?_) (a' := ?_) #[true, false, true, true, false, false, false, false, false, false, false, false, false, false, false, false, false, false, false, false, false, false] rfl rfl (by kernel_rfl) (fun _ _ _ h => h) (Or.inl ⟨by rfl, ?_⟩) ?_ ?_
          rotate_left
          · intro w'
            go_simp
            with_reducible rfl
          rotate_left
          · simp only [Act.put, List.setIfInBounds_toArray, List.set_cons_zero, List.set_cons_succ, i64_w, i32_w]; rfl
          refine pure_ (i := 5) (N := (some 42)) (v := ?_) (a' := ?_) #[true, false, true, true, false, true, false, false, false, false, false, false, false, false, false, false, false, false, false, false, false, false] rfl rfl (by kernel_rfl) (fun _ _ _ h => h) (Or.inl ⟨by rfl, ?_⟩) ?_ ?_
          rotate_left
          · intro w'
            go_simp
            with_reducible rfl
          rotate_left
          · simp only [Act.put, List.setIfInBounds_toArray, List.set_cons_zero, List.set_cons_succ, i64_w, i32_w]; rfl
          refine pure_ (i := 7) (N := (some 44)) (v := ?_) (a' := ?_) #[true, false, true, true, false, true, false, true, false, false, false, false, false, false, false, false, false, false, false, false, false, false] rfl rfl (by kernel_rfl) (fun _ _ _ h => h) (Or.inl ⟨by rfl, ?_⟩) ?_ ?_
          rotate_left
          · intro w'
            go_simp
            with_reducible rfl
          rotate_left
          · simp only [Act.put, List.setIfInBounds_toArray, List.set_cons_zero, List.set_cons_succ, i64_w, i32_w]; rfl
          refine pure_ (i := 8) (N := (some 45)) (v := ?_) (a' := ?_) #[true, false, true, true, false, true, false, true, true, false, false, false, false, false, false, false, false, false, false, false, false, false] rfl rfl (by kernel_rfl) (fun _ _ _ h => h) (Or.inl ⟨by rfl, ?_⟩) ?_ ?_
          rotate_left
          · intro w'
            go_simp
            with_reducible rfl
          rotate_left
          · simp only [Act.put, List.setIfInBounds_toArray, List.set_cons_zero, List.set_cons_succ, i64_w, i32_w]; rfl
          refine pure_ (i := 10) (N := (some 47)) (v := ?_) (a' := ?_) #[true, false, true, true, false, true, false, true, true, false, true, false, false, false, false, false, false, false, false, false, false, false] rfl rfl (by kernel_rfl) (fun _ _ _ h => h) (Or.inl ⟨by rfl, ?_⟩) ?_ ?_
          rotate_left
          · intro w'
            go_simp
            with_reducible rfl
          rotate_left
          · simp only [Act.put, List.setIfInBounds_toArray, List.set_cons_zero, List.set_cons_succ, i64_w, i32_w]; rfl
          refine pure_ (i := 12) (N := (some 49)) (v := ?_) (a' := ?_) #[true, false, true, true, false, true, false, true, true, false, true, false, true, false, false, false, false, false, false, false, false, false] rfl rfl (by kernel_rfl) (fun _ _ _ h => h) (Or.inl ⟨by rfl, ?_⟩) ?_ ?_
          rotate_left
          · intro w'
            go_simp
            with_reducible rfl
          rotate_left
          · simp only [Act.put, List.setIfInBounds_toArray, List.set_cons_zero, List.set_cons_succ, i64_w, i32_w]; rfl
          refine pure_ (i := 13) (N := (some 50)) (v := ?_) (a' := ?_) #[true, false, true, true, false, true, false, true, true, false, true, false, true, true, false, false, false, false, false, false, false, false] rfl rfl (by kernel_rfl) (fun _ _ _ h => h) (Or.inl ⟨by rfl, ?_⟩) ?_ ?_
          rotate_left
          · intro w'
            go_simp
            with_reducible rfl
          rotate_left
          · simp only [Act.put, List.setIfInBounds_toArray, List.set_cons_zero, List.set_cons_succ, i64_w, i32_w]; rfl
          refine pure_ (i := 15) (N := (some 52)) (v := ?_) (a' := ?_) #[true, false, true, true, false, true, false, true, true, false, true, false, true, true, false, true, false, false, false, false, false, false] rfl rfl (by kernel_rfl) (fun _ _ _ h => h) (Or.inl ⟨by rfl, ?_⟩) ?_ ?_
          rotate_left
          · intro w'
            go_simp
            with_reducible rfl
          rotate_left
          · simp only [Act.put, List.setIfInBounds_toArray, List.set_cons_zero, List.set_cons_succ, i64_w, i32_w]; rfl
          refine take_ (i := 1) (N := (some 38)) (v := ?_) (a' := ?_) #[true, true, true, true, false, true, false, true, true, false, true, false, true, true, false, true, false, false, false, false, false, false] rfl rfl (by kernel_rfl) (fun _ _ _ h => h) (Or.inl ⟨by rfl, ?_⟩) hHeld ?_ ?_
          rotate_left
          · intro w' hSw
            (try dsimp only at hSw)
            go_simp
            with_reducible rfl
          rotate_left
          · simp only [Act.put, List.setIfInBounds_toArray, List.set_cons_zero, List.set_cons_succ, i64_w, i32_w]; rfl
          refine take_ (i := 4) (N := (some 41)) (v := ?_) (a' := ?_) #[true, true, true, true, true, true, false, true, true, false, true, false, true, true, false, true, false, false, false, false, false, false] rfl rfl (by kernel_rfl) (fun _ _ _ h => h) (Or.inl ⟨by rfl, ?_⟩) hHeld ?_ ?_
          rotate_left
          · intro w' hSw
            (try dsimp only at hSw)
            go_simp
            with_reducible rfl
          rotate_left
          · simp only [Act.put, List.setIfInBounds_toArray, List.set_cons_zero, List.set_cons_succ, i64_w, i32_w]; rfl
          refine pure_ (i := 6) (N := (some 43)) (v := ?_) (a' := ?_) #[true, true, true, true, true, true, true, true, true, false, true, false, true, true, false, true, false, false, false, false, false, false] rfl rfl (by kernel_rfl) (fun _ _ _ h => h) (Or.inl ⟨by rfl, ?_⟩) ?_ ?_
          rotate_left
          · intro w'
            go_simp
            with_reducible rfl
          rotate_left
          · simp only [Act.put, List.setIfInBounds_toArray, List.set_cons_zero, List.set_cons_succ, i64_w, i32_w]; rfl
          refine take_ (i := 9) (N := (some 46)) (v := ?_) (a' := ?_) #[true, true, true, true, true, true, true, true, true, true, true, false, true, true, false, true, false, false, false, false, false, false] rfl rfl (by kernel_rfl) (fun _ _ _ h => h) (Or.inl ⟨by rfl, ?_⟩) hHeld ?_ ?_
          rotate_left
          · intro w' hSw
            (try dsimp only at hSw)
            go_simp
            with_reducible rfl
          rotate_left
          · simp only [Act.put, List.setIfInBounds_toArray, List.set_cons_zero, List.set_cons_succ, i64_w, i32_w]; rfl
          refine pure_ (i := 11) (N := (some 48)) (v := ?_) (a' := ?_) #[true, true, true, true, true, true, true, true, true, true, true, true, true, true, false, true, false, false, false, false, false, false] rfl rfl (by kernel_rfl) (fun _ _ _ h => h) (Or.inl ⟨by rfl, ?_⟩) ?_ ?_
          rotate_left
          · intro w'
            go_simp
            with_reducible rfl
          rotate_left
          · simp only [Act.put, List.setIfInBounds_toArray, List.set_cons_zero, List.set_cons_succ, i64_w, i32_w]; rfl
          refine take_ (i := 14) (N := (some 51)) (v := ?_) (a' := ?_) #[true, true, true, true, true, true, true, true, true, true, true, true, true, true, true, true, false, false, false, false, false, false] rfl rfl (by kernel_rfl) (fun _ _ _ h => h) (Or.inl ⟨by rfl, ?_⟩) hHeld ?_ ?_
          rotate_left
          · intro w' hSw
            (try dsimp only at hSw)
            go_simp
            with_reducible rfl
          rotate_left
          · simp only [Act.put, List.setIfInBounds_toArray, List.set_cons_zero, List.set_cons_succ, i64_w, i32_w]; rfl
          refine pure_ (i := 16) (N := (some 53)) (v := ?_) (a' := ?_) #[true, true, true, true, true, true, true, true, true, true, true, true, true, true, true, true, true, false, false, false, false, false] rfl rfl (by kernel_rfl) (fun _ _ _ h => h) (Or.inl ⟨by rfl, ?_⟩) ?_ ?_
          rotate_left
          · intro w'
            go_simp
            with_reducible rfl
          rotate_left
          · simp only [Act.put, List.setIfInBounds_toArray, List.set_cons_zero, List.set_cons_succ, i64_w, i32_w]; rfl
          refine one_ (i := 17) (N := (some 54)) #[true, true, true, true, true, true, true, true, true, true, true, true, true, true, true, true, true, true, false, false, false, false] rfl rfl (by kernel_rfl) (by decide) (fun K hK => ?_)
          refine Kd.R_lit_step (Kd.int .i64) _ 2 ?hg (N := 54) ?hd (xs := ([wrap64 (x + (Q.length : Int)), wrap64 (y + (Q.length : Int)), wrap64 (z + (Q.length : Int))] : List Int)) (inner := [.int .i64 (wrap64 (x + (Q.length : Int))), .int .i64 (wrap64 (y + (Q.length : Int))), .int .i64 (wrap64 (z + (Q.length : Int)))]) (ok := fun _ => True) (okp := fun _ => True) ?hr ?hp (fun _ hk => hk) trivial (Below.refl _ _) (Nat.le_refl _) (by simp) ?_
          (case hd => rfl)
          (case hg => rfl)
          (case hr => first | (go_simp; done) | (go_simp; rfl))
          (case hp => exact (Reps.one (show Kd.M (Kd.int .i64) _ _ _ (wrap64 (x + (Q.length : Int))) [.int .i64 (wrap64 (x + (Q.length : Int)))] from rfl) (Reps.one (show Kd.M (Kd.int .i64) _ _ _ (wrap64 (y + (Q.length : Int))) [.int .i64 (wrap64 (y + (Q.length : Int)))] from rfl) (Reps.one (show Kd.M (Kd.int .i64) _ _ _ (wrap64 (z + (Q.length : Int))) [.int .i64 (wrap64 (z + (Q.length : Int)))] from rfl) (Reps.none _ _)))))
          intro v2 w14 ho hb hg_ hnew_
          clear hg_ hnew_
          obtain ⟨Ar, cr, rfl⟩ := Kd.R_slice ho
          have D2 := Lib.hid (C2.out.below hb); have D3 := Lib.hid (C3.out.below hb); have DY := Lib.hid (CY.out.below hb); have DB := Lib.hid (below_step CB.out hb)
          have DT := Lib.hid (Kd.S_elder' CT.out (Kd.R_base ho) hb); have DQ := Lib.hid (Kd.R_below CQ.out hb); have DR := Lib.hid (Kd.R_lower ho (below_size CB.out))
          clear ho hb C2 C3 CY CB CT CQ
          refine hK.out _ _ ⟨(blk_cell D3.out 1).trans rfl, oldc DB.out tx, oldc DB.out ty, oldc DB.out tz⟩ (fun hHeld => ?_)
          clear hK K
          refine norm_ (a' := ?_) ?_ ?_
          rotate_left
          · show Act.put _ (some 54) _ = _
            simp only [Act.put, List.setIfInBounds_toArray, List.set_cons_zero, List.set_cons_succ, i64_w, i32_w]
            rfl
          have hrow : ([wrap64 (x + (Q.length : Int)), wrap64 (y + (Q.length : Int)), wrap64 (z + (Q.length : Int))] : List Int) = shiftT Q.length [x, y, z] := rfl
          rw [hrow] at DR
          have hl3 : (shiftT Q.length [x, y, z]).length = 3 := rfl
          refine one_ (i := 18) (N := (some 55)) #[true, true, true, true, true, true, true, true, true, true, true, true, true, true, true, true, true, true, true, false, false, false] rfl rfl (by kernel_rfl) (by decide) (fun K hK => ?_)
          refine value_ (w1 := ?_) (v := ?_) (by rfl) rfl ?_ ?_
          rotate_left 2
          · go_simp
            constructor
            · rfl
            · rfl
          refine hK.out _ _ ⟨(blk_cell (blk_alloc D3.out _) 1).trans rfl, oldc (below_alloc DB.out _) tx, oldc (below_alloc DB.out _) ty, oldc (below_alloc DB.out _) tz⟩ (fun hHeld => ?_)
          clear hK K
          refine norm_ (a' := ?_) ?_ ?_
          rotate_left
          · show Act.put _ (some 55) _ = _
            simp only [Act.put, List.setIfInBounds_toArray, List.set_cons_zero, List.set_cons_succ, i64_w, i32_w]
            rfl
          refine one_ (i := 19) (N := (some 56)) #[true, true, true, true, true, true, true, true, true, true, true, true, true, true, true, true, true, true, true, true, false, false] rfl rfl (by kernel_rfl) (by decide) (fun K hK => ?_)
          refine Kd.S_append_step (Kd.slice 2 (Kd.int .i64)) (w0 := w) w.heap.size (by rfl) (.tmp 38) (.tmp 55) 23 34 (.slice none 0 0) 24 rfl Try.underlying23 info34 rfl (by decide) (by omega) u (joinT T T' Q.length i) (shiftT Q.length [x, y, z]) [.slice Ar 3 cr] (fun _ => True) (fun k_ => some k_ = (.slice Ar 3 cr : Value).ownBlock) rfl rfl ?aP (fun k_ hk_ => ((Kd.R_mono (ok' := fun k_ => ((fun _ => True)) k_ ∧ some k_ ≠ (u : Value).ownBlock) (Kd.R_apart' (DR.out) (Kd.S_typed DT.out) (by decide)) (fun k_ hk => ⟨trivial, hk.2⟩))).1 k_ hk_.symm) ?aF ?aO ?aB ?aS ?aL ?_
          (case aP => exact Kd.M_row (Kd.R_mono (Kd.R_tight rfl (Kd.R_mono (ok' := fun k_ => ((fun _ => True)) k_ ∧ some k_ ≠ (u : Value).ownBlock) (Kd.R_apart' (DR.out) (Kd.S_typed DT.out) (by decide)) (fun k_ hk => ⟨trivial, hk.2⟩))) (fun _ h_ => h_)))
          (case aB => exact DB.out)
          (case aF => exact (fun _ _ => trivial))
          (case aO => exact Kd.S_mono DT.out (fun k_ hk => ⟨trivial, fun e_ => hk.2 e_⟩))
          (case aS => exact below_size DB.out)
          (case aL => have := hlj.out; omega)
          intro v1 w16 ho hb hg hat
          have E2 := Lib.hid (blk_grown D2.out hg (Kd.S_ne DT.out D2.out (by decide))); have E3 := Lib.hid (blk_grown D3.out hg (Kd.S_ne DT.out D3.out (by decide))); have EY := Lib.hid (blk_grown DY.out hg (Kd.S_ne DT.out DY.out (by decide)))
          have EQ := Lib.hid (Kd.R_over' DQ.out (Kd.S_typed DT.out) (by decide) hg)
          rw [← HTK.out] at ho
          obtain ⟨Av, cv, rfl⟩ := Kd.S_slice ho
          have EB := Lib.hid hb; have ET := Lib.hid ho
          clear ho hb hg hat D2 D3 DY DB DT DQ DR hrow hl3
          refine hK.out _ _ ⟨(blk_cell E3.out 1).trans rfl, oldc EB.out tx, oldc EB.out ty, oldc EB.out tz⟩ (fun hHeld => ?_)
          clear hK K
          refine norm_ (a' := ?_) ?_ ?_
          rotate_left
          · show Act.put _ (some 56) _ = _
            simp only [Act.put, List.setIfInBounds_toArray, List.set_cons_zero, List.set_cons_succ, i64_w, i32_w]
            rfl
          refine pure_ (i := 20) (N := (some 57)) (v := ?_) (a' := ?_) #[true, true, true, true, true, true, true, true, true, true, true, true, true, true, true, true, true, true, true, true, true, false] rfl rfl (by kernel_rfl) (fun _ _ _ h => h) (Or.inl ⟨by rfl, ?_⟩) ?_ ?_
          rotate_left
          · intro w'
            go_simp
            with_reducible rfl
          rotate_left
          · simp only [Act.put, List.setIfInBounds_toArray, List.set_cons_zero, List.set_cons_succ, i64_w, i32_w]; rfl
          refine last_ (i := 21) (N := none) #[true, true, true, true, true, true, true, true, true, true, true, true, true, true, true, true, true, true, true, true, true, true] rfl rfl (by kernel_rfl) (by decide) (fun K hK => ?_)
          have hs28 : w16.cell? ⟨g, 1, none⟩ = some u := (blk_cell E3.out 1).trans rfl
          have hfs28 := blk_frozen E3.out 1
          refine skip_ (w1 := ?_) (by rfl) rfl ?_ ?_
          rotate_left
          · go_simp
            rfl
          refine hK.out _ _ ?_
          clear hK K
          refine done_ (by kernel_rfl) ?_
          clear hs28 hfs28
          go_wp2_with fail
          exact ⟨⟨i + 1, _, hlt, by simp, Lib.hid (below_set EB.out (by omega)), Lib.hid (blk_far E2.out (by show w.heap.size + 1 + 1 ≠ g; omega) _), Lib.hid (blk_far EY.out (by show w.heap.size + 1 ≠ g; omega) _), Lib.hid (blk_put E3.out 1 _ rfl), Lib.hid (R_boxset EQ.out E3.out (by decide) 1 _), Lib.hid (Kd.S_set ET.out E3.out (by decide) 1 _)⟩, by simp [intOf]; omega⟩
        · obtain rfl : i = T'.length := by omega
          have gd0 := G2.out.c0
          have yd1 := Y2.out.c1
          have hu := HS.out
          generalize joinT T T' Q.length T'.length = Tn at *
          obtain ⟨At2, ct2, rfl⟩ := Kd.S_slice hu
          have gd1 := G2.out.c1
          obtain ⟨_, p2, p3⟩ := Kd.R_reads' HR.out
          obtain ⟨_, p5, p6⟩ := Kd.S_reads' hu
          have HU := Lib.hid hu
          have HG := Lib.hid (fun (W : World) (h : Below wr.heap.size wr W) => impl_validMesh Ar cr P At2 ct2 Tn W (Kd.C_below p3 h) (by omega) (Kd.C_below p6 h) (by omega))
          clear hu HS p2 p3 p5 p6
          cases hv9 : validB P.length Tn
          · rw [hv9] at HG
            go_wp2_with (first
              | (go_at_call 61; refine (HG.out _ (Below.refl _ _)).mono ?_; rintro E w1 ⟨rfl, hb⟩; have B9 := Lib.hid (below_step HB.out hb); have hF9 := F2.out.below hb; have f0 := hF9.c0; have f1 := hF9.c1; have z0 := blk_frozen hF9 0; have z1 := blk_frozen hF9 1; clear hb; (try simp only [giveV, Bool.false_eq_true, if_false, if_true]))
              | fail)
            ((try simp only [Exit.inBlock, Exit.then]); refine bodyPost_ret (by simp [results, Try.results31, go_sem, f0, f1, setCell_same_of, World.cell?_setCell_other]; try rfl) rfl ?_)
            rw [show joinV P Tn = ([], [], false) by unfold joinV; rw [hv9]; rfl]
            exact ⟨none, 0, none, 0, rfl, ⟨Kd.R_nil _ _ _ _ _, Kd.S_nil _ _ _ _ _⟩, below_set (below_set B9.out (by omega)) (by omega)⟩
          · rw [hv9] at HG
            go_wp2_with (first
              | (go_at_call 61; refine (HG.out _ (Below.refl _ _)).mono ?_; rintro E w1 ⟨rfl, hb⟩; have B9 := Lib.hid (below_step HB.out hb); have Q9 := Lib.hid (Kd.R_below HR.out hb); have T9 := Lib.hid (Kd.S_below HU.out hb); have hF9 := F2.out.below hb; have F9 := Lib.hid hF9; have f0 := hF9.c0; have f1 := hF9.c1; have z0 := blk_frozen hF9 0; have z1 := blk_frozen hF9 1; clear hb hF9; (try simp only [giveV, Bool.false_eq_true, if_false, if_true]))
              | fail)
            ((try simp only [Exit.inBlock, Exit.then]); refine bodyPost_ret (by simp [results, Try.results31, go_sem, f0, f1, setCell_same_of, World.cell?_setCell_other]; try rfl) rfl ?_)
            rw [show joinV P Tn = (P, Tn, true) by unfold joinV; rw [hv9]; rfl]
            exact ⟨Ar, cr, At2, ct2, rfl, ⟨R_in (R_boxset (R_boxset Q9.out F9.out (by decide) 0 _) (blk_put F9.out 0 _ rfl) (by decide) 1 _), S_in (Kd.S_set (Kd.S_set T9.out F9.out (by decide) 0 _) (blk_put F9.out 0 _ rfl) (by decide) 1 _)⟩, below_set (below_set B9.out (by omega)) (by omega)⟩
    · have hv1 := Bool.eq_false_iff.2 hv'
      have hr : joinR Q T Q' T' = ([], [], false) := by unfold joinR; rw [if_neg (fun h => hv' h.2)]
      rw [hr]
      rw [hv] at HV
      rw [hv1] at HV2
      clear hr hv hv' hv1 hQ hT hq hqt hQ' hT' hq' hqt'
      go_enter Try.func31, Try.ntmps31
      go_wp2_with (first
        | (go_at_call 41; first | (refine (HV2.out _ B1.out).mono ?_; rintro E w2 ⟨rfl, hb⟩; have B2 := Lib.hid (below_step B1.out hb); have X2 := Lib.hid (X1.out.below hb); have Y2 := Lib.hid (Y1.out.below hb); have F2 := Lib.hid (F1.out.below hb); clear yc0 yc1; have f0 := F2.out.c0; have f1 := F2.out.c1; have z0 := blk_frozen F2.out 0; have z1 := blk_frozen F2.out 1;  clear hb) | (refine (HV.out _ B0.out).mono ?_; rintro E w1 ⟨rfl, hb⟩; have B1 := Lib.hid (below_step B0.out hb); have X1 := Lib.hid (X0.out.below hb); have Y1 := Lib.hid (Y0.out.below hb); have F1 := Lib.hid (F0.out.below hb); have yc0 := Y1.out.c0; have yc1 := Y1.out.c1; clear hc0 hc1;  clear hb))
        | fail)
      ((try simp only [Exit.inBlock, Exit.then]); refine bodyPost_ret (by simp [results, Try.results31, go_sem, f0, f1, setCell_same_of, World.cell?_setCell_other]; try rfl) rfl ?_)
      exact ⟨none, 0, none, 0, rfl, ⟨Kd.R_nil _ _ _ _ _, Kd.S_nil _ _ _ _ _⟩, below_set (below_set B2.out (by omega)) (by omega)⟩
  · have hv1 := Bool.eq_false_iff.2 hv
    have hr : joinR Q T Q' T' = ([], [], false) := by unfold joinR; rw [if_neg (fun h => hv h.1)]
    rw [hr]
    rw [hv1] at HV
    clear hr hv hv1 hQ hT hq hqt hQ' hT' hq' hqt'
    go_enter Try.func31, Try.ntmps31
    go_wp2_with (first
      | (go_at_call 41; refine (HV.out _ B0.out).mono ?_; rintro E w1 ⟨rfl, hb⟩; have B1 := Lib.hid (below_step B0.out hb); have F1 := F0.out.below hb; have f0 := F1.c0; have f1 := F1.c1; have z0 := blk_frozen F1 0; have z1 := blk_frozen F1 1; clear hb hc0 hc1)
      | fail)
    ((try simp only [Exit.inBlock, Exit.then]); refine bodyPost_ret (by simp [results, Try.results31, go_sem, f0, f1, setCell_same_of, World.cell?_setCell_other]; try rfl) rfl ?_)
    exact ⟨none, 0, none, 0, rfl, ⟨Kd.R_nil _ _ _ _ _, Kd.S_nil _ _ _ _ _⟩, below_set (below_set B1.out (by omega)) (by omega)⟩

end Go.Proofs.Ytnibobbfepdeiaa
namespace Go.Proofs.Ytnibobbfepdeiaa.Fl
open Go.RowKit
section
variable {P : Program} {ops : Array Oper} {rest : List Oper} {o : Oper} {a : Act} {w : World} {Q : Exit → Act → World → Prop}
theorem wpList_fneg (hw : Region.wanted o (yielded ops a.tmps) = true) (t : TypeId) (x : Operand) (ho : o.op = .unOp .neg t x) (k : FloatKind) (bx : Nat) (hx : a.eval x = .float k bx)
    (h : wpList P ops Q rest (a.put o.dst (.float k (Op.negFloat k bx))) w) : wpList P ops Q (o :: rest) a w := by
  refine wpList_ran hw (v := .float k (Op.negFloat k bx)) (w' := w) ?_ h
  unfold execOp
  rw [ho]
  simp only [hx]
  simp [Op.unary]
end
end Go.Proofs.Ytnibobbfepdeiaa.Fl
namespace Go.Proofs.Ytnibobbfepdeiaa
open Fl Go.RowKit Go.Proofs.YtnibobbfepdeiaaW.PrintWords Go.Proofs.YtnibobbfepdeiaaW.PrintLast Go.Proofs.YtnibobbfepdeiaaW.PrintMore Go.Proofs.Ytnibobbfepdeiaa.PMesh Msh Ieee
set_option linter.unusedVariables false
set_option linter.unusedSimpArgs false

set_option maxHeartbeats 4000000 in
set_option maxRecDepth 100000 in
theorem fnTurned_walk (w : World) (a0 : Option Addr) (n0 k0 : Nat) (hb0 : Byt w a0 n0) (a1 : Option Addr) (n1 k1 : Nat) (hb1 : Byt w a1 n1) :
    Calls Try.prog 7 #[.slice a0 n0 k0, .slice a1 n1 k1] w fun E w' => E = .returned (.bool true) ∧ Below w.heap.size w w' := by
  have HL := laws_r8Long a0 a1 n0 k0 n1 k1 w
  by_cases hlong : 48 < n0 ∨ 48 < n1
  · rw [decide_eq_true hlong] at HL
    clear hlong hb0 hb1
    go_enter Try.func7, Try.ntmps7
    go_wp2_with (first | (go_at_call 24; refine HL.mono ?_; rintro E w1 ⟨rfl, rfl⟩) | fail)
    go_ret
    exact ⟨rfl, Below.refl _ _⟩
  rw [decide_eq_false hlong] at HL
  have hm0 : n0 ≤ 48 := by omega
  have hm1 : n1 ≤ 48 := by omega
  have HA := laws_r8At a1 n1 k1 w (fun h => by obtain ⟨a, x, h1, h2, h3⟩ := hb1 0 h; exact ⟨a, (x : Int), h1, h3, by omega, by omega⟩)
  clear hlong hb1
  go_enter Try.func7, Try.ntmps7
  go_wp2_with fail
  go_at_call 24
  refine HL.mono ?_
  rintro E w1 ⟨rfl, hw⟩
  rw [hw]
  clear hw w1
  go_wp2_with fail
  go_at_call 27
  refine HA.mono ?_
  rintro E w1 ⟨⟨q, hq, rfl⟩, hw⟩
  rw [hw]
  clear hw w1
  go_wp2_with fail
  go_at_call 26
  refine (spec_R8Form q hq _).mono ?_
  rintro E w2 ⟨Q, T, A4, c4, B4, e4, hform, rfl, hR4, hb⟩
  obtain ⟨hq1, hv1, ht1, hq2⟩ := formB_iff hform
  obtain ⟨v1_, v2_, v3_⟩ := valid_rows hv1
  have B2 := hb
  go_wp2_with fail
  go_at_call 25
  refine (spec_R8Moved a0 n0 k0 A4 c4 Q B4 e4 T w2 hm0 (hb0.below hb) hR4.1 hR4.2.2.1 (by omega) (by omega) (fun t ht => by have := v3_ t ht; omega)).mono ?_
  rintro E w3 ⟨P, A5, c5, B5, e5, hN, hE, hO5, hb⟩
  rw [← hN.1] at hE hO5
  subst hE
  have BB := Lib.hid (below_step B2 hb)
  obtain ⟨U, P2, PJ, T3, a, b, g, s, r, hT, ⟨ws, wa, d, d1, d2, o_, t_, hG⟩, hNm⟩ := turned_plain hform hN
  have HT := Lib.hid hT; have HG := Lib.hid hG; have HNM := Lib.hid hNm; have O5 := Lib.hid hO5
  clear hT hG hNm hO5 hq1 hv1 ht1 hq2 v1_ v2_ v3_ hN hform hR4 hb B2 hb0 hm0 hm1 HL HA
  obtain ⟨w4, hw⟩ : ∃ W, W = w3.alloc (.cells #[.slice A5 P.length c5, .slice B5 T.length e5] 30) := ⟨_, rfl⟩
  have hv : Below w3.heap.size w3 w4 := by rw [hw]; exact below_alloc (Below.refl _ _) _
  replace BB := Lib.hid (below_step BB.out hv)
  have X5 := Lib.hid (show BoxAt w4 w3.heap.size 30 (.slice A5 P.length c5) (.slice B5 T.length e5) by rw [hw]; exact BoxAt.new w3 30 _ _)
  have M5 := Lib.hid (show ReadM w4 A5 c5 P B5 e5 T from ReadM.below O5.out.read hv)
  go_wp2_with fail
  rw [← hw]
  clear hw hv
  generalize w3.heap.size = g5 at *
  go_at_call 28
  refine (impl_TurnMesh A5 c5 P B5 e5 T w4 M5.out.1 M5.out.2.1 M5.out.2.2.1 M5.out.2.2.2).mono ?_
  rw [HT.out.turn1]
  rintro E w5 ⟨A6, c6, B6, e6, rfl, hO6, hb⟩
  have O6 := Lib.hid hO6
  clear hO6 O5
  replace BB := Lib.hid (below_step BB.out hb)
  replace X5 := Lib.hid (BoxAt.below X5.out hb); replace M5 := Lib.hid (ReadM.below M5.out hb)
  clear hb
  obtain ⟨w6, hw⟩ : ∃ W, W = w5.alloc (.cells #[.slice A6 P.length c6, .slice B6 U.length e6] 30) := ⟨_, rfl⟩
  have hv : Below w5.heap.size w5 w6 := by rw [hw]; exact below_alloc (Below.refl _ _) _
  replace BB := Lib.hid (below_step BB.out hv)
  replace X5 := Lib.hid (BoxAt.below X5.out hv); replace M5 := Lib.hid (ReadM.below M5.out hv)
  have X6 := Lib.hid (show BoxAt w6 w5.heap.size 30 (.slice A6 P.length c6) (.slice B6 U.length e6) by rw [hw]; exact BoxAt.new w5 30 _ _)
  have M6 := Lib.hid (show ReadM w6 A6 c6 P B6 e6 U from ReadM.below O6.out.read hv)
  go_wp2_with fail
  rw [← hw]
  clear hw hv
  generalize w5.heap.size = g6 at *
  go_at_call 28
  refine (impl_TurnMesh A6 c6 P B6 e6 U w6 M6.out.1 M6.out.2.1 M6.out.2.2.1 M6.out.2.2.2).mono ?_
  rw [HT.out.turn2]
  rintro E w7 ⟨A8, c8, B8, e8, rfl, hO8, hb⟩
  have O8 := Lib.hid hO8
  clear hO8 O6
  replace BB := Lib.hid (below_step BB.out hb)
  replace X5 := Lib.hid (BoxAt.below X5.out hb); replace M5 := Lib.hid (ReadM.below M5.out hb)
  replace X6 := Lib.hid (BoxAt.below X6.out hb); replace M6 := Lib.hid (ReadM.below M6.out hb)
  clear hb
  obtain ⟨w8, hw⟩ : ∃ W, W = w7.alloc (.cells #[.slice A8 P.length c8, .slice B8 T.length e8] 30) := ⟨_, rfl⟩
  have hv : Below w7.heap.size w7 w8 := by rw [hw]; exact below_alloc (Below.refl _ _) _
  replace BB := Lib.hid (below_step BB.out hv)
  replace X5 := Lib.hid (BoxAt.below X5.out hv); replace M5 := Lib.hid (ReadM.below M5.out hv)
  replace X6 := Lib.hid (BoxAt.below X6.out hv); replace M6 := Lib.hid (ReadM.below M6.out hv)
  have X8 := Lib.hid (show BoxAt w8 w7.heap.size 30 (.slice A8 P.length c8) (.slice B8 T.length e8) by rw [hw]; exact BoxAt.new w7 30 _ _)
  have M8 := Lib.hid (show ReadM w8 A8 c8 P B8 e8 T from ReadM.below O8.out.read hv)
  have k50 := X5.out.c0; have k51 := X5.out.c1; rw [hw] at k50 k51
  go_wp2_with fail
  rw [← hw]
  clear hw hv
  clear k50 k51
  generalize w7.heap.size = g8 at *
  clear O8
  go_at_call 29
  refine (impl_AreaOf A5 c5 P B5 e5 T w8 M5.out.1 M5.out.2.1 M5.out.2.2.1 M5.out.2.2.2).mono ?_
  rw [HT.out.area1]
  rintro E w9 ⟨s_, rfl, h_, hb⟩
  obtain rfl : a = s_ := val_some h_.2
  clear h_
  replace BB := Lib.hid (below_step BB.out hb)
  replace X5 := Lib.hid (BoxAt.below X5.out hb); replace M5 := Lib.hid (ReadM.below M5.out hb)
  replace X6 := Lib.hid (BoxAt.below X6.out hb); replace M6 := Lib.hid (ReadM.below M6.out hb)
  replace X8 := Lib.hid (BoxAt.below X8.out hb); replace M8 := Lib.hid (ReadM.below M8.out hb)
  clear hb
  have k60 := X6.out.c0; have k61 := X6.out.c1
  go_wp2_with fail
  clear k60 k61
  go_at_call 29
  refine (impl_AreaOf A6 c6 P B6 e6 U w9 M6.out.1 M6.out.2.1 M6.out.2.2.1 M6.out.2.2.2).mono ?_
  rw [HT.out.area2]
  rintro E w10 ⟨s_, rfl, h_, hb⟩
  obtain rfl : b = s_ := val_some h_.2
  clear h_
  replace BB := Lib.hid (below_step BB.out hb)
  replace X5 := Lib.hid (BoxAt.below X5.out hb); replace M5 := Lib.hid (ReadM.below M5.out hb)
  replace X6 := Lib.hid (BoxAt.below X6.out hb); replace M6 := Lib.hid (ReadM.below M6.out hb)
  replace X8 := Lib.hid (BoxAt.below X8.out hb); replace M8 := Lib.hid (ReadM.below M8.out hb)
  clear hb
  have k50 := X5.out.c0; have k51 := X5.out.c1
  go_wp2_with fail
  clear k50 k51
  go_at_call 30
  refine (impl_ScaleMesh A5 c5 P B5 e5 T 1073741824 w10 M5.out.1 M5.out.2.1 M5.out.2.2.1 M5.out.2.2.2 HT.out.ok (by decide)).mono ?_
  rw [HT.out.scale]
  rintro E w11 ⟨R2, A14, c14, B14, e14, hs, rfl, hO14, hb⟩
  obtain rfl := HT.out.p2 _ hs
  have O14 := Lib.hid hO14
  clear hs hO14
  replace BB := Lib.hid (below_step BB.out hb)
  replace X5 := Lib.hid (BoxAt.below X5.out hb); replace M5 := Lib.hid (ReadM.below M5.out hb)
  replace X6 := Lib.hid (BoxAt.below X6.out hb); replace M6 := Lib.hid (ReadM.below M6.out hb)
  replace X8 := Lib.hid (BoxAt.below X8.out hb); replace M8 := Lib.hid (ReadM.below M8.out hb)
  clear hb
  obtain ⟨w12, hw⟩ : ∃ W, W = w11.alloc (.cells #[.slice A14 R2.length c14, .slice B14 T.length e14] 30) := ⟨_, rfl⟩
  have hv : Below w11.heap.size w11 w12 := by rw [hw]; exact below_alloc (Below.refl _ _) _
  replace BB := Lib.hid (below_step BB.out hv)
  replace X5 := Lib.hid (BoxAt.below X5.out hv); replace M5 := Lib.hid (ReadM.below M5.out hv)
  replace X6 := Lib.hid (BoxAt.below X6.out hv); replace M6 := Lib.hid (ReadM.below M6.out hv)
  replace X8 := Lib.hid (BoxAt.below X8.out hv); replace M8 := Lib.hid (ReadM.below M8.out hv)
  have X14 := Lib.hid (show BoxAt w12 w11.heap.size 30 (.slice A14 R2.length c14) (.slice B14 T.length e14) by rw [hw]; exact BoxAt.new w11 30 _ _)
  have M14 := Lib.hid (show ReadM w12 A14 c14 R2 B14 e14 T from ReadM.below O14.out.read hv)
  go_wp2_with fail
  rw [← hw]
  clear hw hv
  generalize w11.heap.size = g14 at *
  clear O14
  go_at_call 29
  refine (impl_AreaOf A14 c14 R2 B14 e14 T w12 M14.out.1 M14.out.2.1 M14.out.2.2.1 M14.out.2.2.2).mono ?_
  rw [HT.out.area3]
  rintro E w13 ⟨s_, rfl, h_, hb⟩
  obtain rfl : g = s_ := val_some h_.2
  clear h_
  replace BB := Lib.hid (below_step BB.out hb)
  replace X5 := Lib.hid (BoxAt.below X5.out hb); replace M5 := Lib.hid (ReadM.below M5.out hb)
  replace X6 := Lib.hid (BoxAt.below X6.out hb); replace M6 := Lib.hid (ReadM.below M6.out hb)
  replace X8 := Lib.hid (BoxAt.below X8.out hb); replace M8 := Lib.hid (ReadM.below M8.out hb)
  replace X14 := Lib.hid (BoxAt.below X14.out hb); replace M14 := Lib.hid (ReadM.below M14.out hb)
  clear hb
  have k50 := X5.out.c0; have k51 := X5.out.c1
  have k60 := X6.out.c0; have k61 := X6.out.c1
  go_wp2_with fail
  clear k50 k51 k60 k61
  go_at_call 31
  refine (impl_JoinMeshes A5 c5 P B5 e5 T A6 c6 P B6 e6 U w13 M5.out.1 M5.out.2.1 M5.out.2.2.1 M5.out.2.2.2 M6.out.1 M6.out.2.1 M6.out.2.2.1 M6.out.2.2.2).mono ?_
  rw [HT.out.join]
  rintro E w14 ⟨A18, c18, B18, e18, rfl, hO18, hb⟩
  have O18 := Lib.hid hO18
  clear hO18
  replace BB := Lib.hid (below_step BB.out hb)
  replace X5 := Lib.hid (BoxAt.below X5.out hb); replace M5 := Lib.hid (ReadM.below M5.out hb)
  replace X6 := Lib.hid (BoxAt.below X6.out hb); replace M6 := Lib.hid (ReadM.below M6.out hb)
  replace X8 := Lib.hid (BoxAt.below X8.out hb); replace M8 := Lib.hid (ReadM.below M8.out hb)
  replace X14 := Lib.hid (BoxAt.below X14.out hb); replace M14 := Lib.hid (ReadM.below M14.out hb)
  clear hb
  obtain ⟨w15, hw⟩ : ∃ W, W = w14.alloc (.cells #[.slice A18 PJ.length c18, .slice B18 T3.length e18] 30) := ⟨_, rfl⟩
  have hv : Below w14.heap.size w14 w15 := by rw [hw]; exact below_alloc (Below.refl _ _) _
  replace BB := Lib.hid (below_step BB.out hv)
  replace X5 := Lib.hid (BoxAt.below X5.out hv); replace M5 := Lib.hid (ReadM.below M5.out hv)
  replace X6 := Lib.hid (BoxAt.below X6.out hv); replace M6 := Lib.hid (ReadM.below M6.out hv)
  replace X8 := Lib.hid (BoxAt.below X8.out hv); replace M8 := Lib.hid (ReadM.below M8.out hv)
  replace X14 := Lib.hid (BoxAt.below X14.out hv); replace M14 := Lib.hid (ReadM.below M14.out hv)
  have X18 := Lib.hid (show BoxAt w15 w14.heap.size 30 (.slice A18 PJ.length c18) (.slice B18 T3.length e18) by rw [hw]; exact BoxAt.new w14 30 _ _)
  have M18 := Lib.hid (show ReadM w15 A18 c18 PJ B18 e18 T3 from ReadM.below O18.out.read hv)
  go_wp2_with fail
  rw [← hw]
  clear hw hv
  generalize w14.heap.size = g18 at *
  clear O18
  go_at_call 29
  refine (impl_AreaOf A18 c18 PJ B18 e18 T3 w15 M18.out.1 M18.out.2.1 M18.out.2.2.1 M18.out.2.2.2).mono ?_
  rw [HT.out.area4]
  rintro E w16 ⟨s_, rfl, h_, hb⟩
  obtain rfl : s = s_ := val_some h_.2
  clear h_
  replace BB := Lib.hid (below_step BB.out hb)
  replace X5 := Lib.hid (BoxAt.below X5.out hb); replace M5 := Lib.hid (ReadM.below M5.out hb)
  replace X6 := Lib.hid (BoxAt.below X6.out hb); replace M6 := Lib.hid (ReadM.below M6.out hb)
  replace X8 := Lib.hid (BoxAt.below X8.out hb); replace M8 := Lib.hid (ReadM.below M8.out hb)
  replace X14 := Lib.hid (BoxAt.below X14.out hb); replace M14 := Lib.hid (ReadM.below M14.out hb)
  replace X18 := Lib.hid (BoxAt.below X18.out hb); replace M18 := Lib.hid (ReadM.below M18.out hb)
  clear hb
  obtain ⟨v1_, v2_, v3_⟩ := valid_rows HT.out.valid
  have hpl := HT.out.pl
  have htl := HT.out.tl
  have k80 := X8.out.c0; have k81 := X8.out.c1
  have k50 := X5.out.c0; have k51 := X5.out.c1
  go_wp2_with fail
  clear k80 k81 k50 k51
  go_at_call 32
  refine (G7.impl_SameMesh P P T T (by omega) HT.out.ok HT.out.ok (by omega) (fun t ht => by have := v3_ t ht; omega) A8 B8 A5 B5 c8 e8 c5 e5 w16 M8.out.1 M8.out.2.2.1 M5.out.1 M5.out.2.2.1).mono ?_
  rw [show (G7.samePB P P && decide (T = T)) = true by rw [HT.out.eq]; simp]
  rintro E w17 ⟨rfl, hb⟩
  replace BB := Lib.hid (below_step BB.out hb)
  replace X5 := Lib.hid (BoxAt.below X5.out hb); replace M5 := Lib.hid (ReadM.below M5.out hb)
  replace X6 := Lib.hid (BoxAt.below X6.out hb); replace M6 := Lib.hid (ReadM.below M6.out hb)
  replace X8 := Lib.hid (BoxAt.below X8.out hb); replace M8 := Lib.hid (ReadM.below M8.out hb)
  replace X14 := Lib.hid (BoxAt.below X14.out hb); replace M14 := Lib.hid (ReadM.below M14.out hb)
  replace X18 := Lib.hid (BoxAt.below X18.out hb); replace M18 := Lib.hid (ReadM.below M18.out hb)
  clear hb v1_ v2_ v3_
  have ho1 := HT.out.same
  have ho2 := HT.out.four
  have qr := HT.out.times
  have l1 : (2 : Int) * (P.length : Int) ≤ 64 := by omega
  have l2 : (2 : Int) * (T.length : Int) ≤ 128 := by omega
  have e1 : wrap64 ((2 : Int) * (P.length : Int)) = 2 * (P.length : Int) := Msh.wrap_fit (by omega) (by omega)
  have e2 : wrap64 ((2 : Int) * (T.length : Int)) = 2 * (T.length : Int) := Msh.wrap_fit (by omega) (by omega)
  have q1 := HG.out.h_ws; have q2 := HG.out.h_wa; have q3 := HG.out.h_d; have q4 := HG.out.h_o; have q5 := HG.out.h_t
  have k50 := X5.out.c0; have k51 := X5.out.c1
  go_wp2_with (first
    | ((with_reducible refine gate_dst (N := 112) rfl ?_); (refine wpList_fbin (o := ⟨some 112, _, _, _, _, _⟩) rfl _ _ _ _ _ rfl (by decide) _ _ _ rfl rfl ?_; intro z0 nz0 hz0; rw [qr] at hz0); obtain rfl := val_some hz0.2)
    | ((with_reducible refine gate_dst (N := 136) rfl ?_); (refine wpList_widen (o := ⟨some 136, _, _, _, _, _⟩) rfl _ _ _ rfl _ rfl (by kernel_rfl) (by kernel_rfl) ?_; intro z1 nz1 hz1; rw [q1] at hz1); obtain rfl := val_some hz1.2)
    | ((with_reducible refine gate_dst (N := 138) rfl ?_); (refine wpList_widen (o := ⟨some 138, _, _, _, _, _⟩) rfl _ _ _ rfl _ rfl (by kernel_rfl) (by kernel_rfl) ?_; intro z2 nz2 hz2; rw [q2] at hz2); obtain rfl := val_some hz2.2)
    | ((with_reducible refine gate_dst (N := 139) rfl ?_); (refine wpList_fbin (o := ⟨some 139, _, _, _, _, _⟩) rfl _ _ _ _ _ rfl (by decide) _ _ _ rfl rfl ?_; intro z3 nz3 hz3; rw [q3] at hz3); obtain rfl := val_some hz3.2)
    | (go_at_call 33; refine (laws_r8Gap ws d d1 d2 HG.out.h_g1 HG.out.h_g2 HG.out.f1 HG.out.f2 _).mono ?_; rintro E w18 ⟨dd, hdd, rfl, nd, hw18⟩; have hgt : (FloatKind.f64.format.order dd t_ == some .gt) = false := (by rcases hdd with rfl | rfl; exact HG.out.c1; exact HG.out.c2); rw [hw18]; clear hw18 hdd)
    | ((with_reducible refine gate_dst (N := 142) rfl ?_); (refine wpList_widen (o := ⟨some 142, _, _, _, _, _⟩) rfl _ _ _ rfl _ rfl (by kernel_rfl) (by kernel_rfl) ?_; intro z4 nz4 hz4; rw [q2] at hz4); obtain rfl := val_some hz4.2)
    | ((with_reducible refine gate_dst (N := 143) rfl ?_); (refine wpList_fbin (o := ⟨some 143, _, _, _, _, _⟩) rfl _ _ _ _ _ rfl (by decide) _ _ _ rfl rfl ?_; intro z5 nz5 hz5; rw [q4] at hz5); obtain rfl := val_some hz5.2)
    | ((with_reducible refine gate_dst (N := 144) rfl ?_); (refine wpList_fbin (o := ⟨some 144, _, _, _, _, _⟩) rfl _ _ _ _ _ rfl (by decide) _ _ _ rfl rfl ?_; intro z6 nz6 hz6; rw [q5] at hz6); obtain rfl := val_some hz6.2)
    | fail)
  clear k50 k51 ho1 ho2 qr l1 l2 e1 e2 q1 q2 q3 q4 q5 hpl htl X8 M8 X14 M14 X18 M18
  have HK := Lib.hid (fun (W : World) (hv : Below w17.heap.size w17 W) => (⟨Lib.hid (below_step BB.out hv), Lib.hid (BoxAt.below X5.out hv), Lib.hid (ReadM.below M5.out hv), Lib.hid (BoxAt.below X6.out hv), Lib.hid (ReadM.below M6.out hv)⟩ : Hid (Below w.heap.size w W) ∧ Hid (BoxAt W g5 30 (.slice A5 P.length c5) (.slice B5 T.length e5)) ∧ Hid (ReadM W A5 c5 P B5 e5 T) ∧ Hid (BoxAt W g6 30 (.slice A6 P.length c6) (.slice B6 U.length e6)) ∧ Hid (ReadM W A6 c6 P B6 e6 U)))
  clear BB X5 M5 X6 M6
  go_loopw [22] (fun kk wr => ∃ i : Nat, i ≤ T.length ∧ kk = .int .i64 (i : Int) ∧ Hid (Below w.heap.size w wr) ∧ Hid (BoxAt wr g5 30 (.slice A5 P.length c5) (.slice B5 T.length e5)) ∧ Hid (ReadM wr A5 c5 P B5 e5 T) ∧ Hid (BoxAt wr g6 30 (.slice A6 P.length c6) (.slice B6 U.length e6)) ∧ Hid (ReadM wr A6 c6 P B6 e6 U)) (fun k _ => T.length - (intOf k).toNat)
  case atStart => exact ⟨0, Nat.zero_le _, rfl, HK.out _ (by repeat (first | exact Below.refl _ _ | refine pw_below_drewN ?_ _))⟩
  case round =>
    clear HK
    obtain ⟨i, hi, rfl, BB, X5, M5, X6, M6⟩ := hrel
    have k50 := X5.out.c0; have k51 := X5.out.c1
    have htl := Lib.hid HT.out.tl
    by_cases hlt : i < T.length
    · have i1 : (i : Int) < (T.length : Int) := by omega
      have i2 : (0 : Int) ≤ (i : Int) := by omega
      have i3 : (i : Int) < 9223372036854775807 := by have := htl.out; omega
      obtain ⟨x, y, z, x', y', z', c, e1, e2, f1, f2, f3, f4, f5, f6⟩ := HNM.out i hlt
      have HE1 := Lib.hid e1; have HE2 := Lib.hid e2; have HF := Lib.hid (show _ ∧ _ ∧ _ ∧ _ ∧ _ ∧ _ from ⟨f1, f2, f3, f4, f5, f6⟩)
      clear e1 e2 f1 f2 f3 f4 f5 f6
      go_wp2_with fail
      clear k50 k51
      go_at_call 34
      refine (impl_NormalOf A5 c5 P B5 e5 T (i : Int) wr M5.out.1 M5.out.2.1 M5.out.2.2.1 M5.out.2.2.2).mono ?_
      rw [HE1.out]
      rintro E wa ⟨p_, q_, s_, rfl, hp_, hq_, hs_, hb⟩
      obtain rfl : x = p_ := val_some hp_.2
      obtain rfl : y = q_ := val_some hq_.2
      obtain rfl : z = s_ := val_some hs_.2
      clear hp_ hq_ hs_
      replace BB := Lib.hid (below_step BB.out hb)
      replace X5 := Lib.hid (BoxAt.below X5.out hb); replace M5 := Lib.hid (ReadM.below M5.out hb)
      replace X6 := Lib.hid (BoxAt.below X6.out hb); replace M6 := Lib.hid (ReadM.below M6.out hb)
      clear hb
      obtain ⟨wb, hw⟩ : ∃ W, W = wa.alloc (.cells #[.float .f32 x, .float .f32 y, .float .f32 z] 59) := ⟨_, rfl⟩
      have hv : Below wa.heap.size wa wb := by rw [hw]; exact below_alloc (Below.refl _ _) _
      have V1 := Lib.hid (show BoxT wb wa.heap.size 59 x y z by rw [hw]; exact BoxT.new wa 59 _ _ _)
      replace BB := Lib.hid (below_step BB.out hv)
      replace X5 := Lib.hid (BoxAt.below X5.out hv); replace M5 := Lib.hid (ReadM.below M5.out hv)
      replace X6 := Lib.hid (BoxAt.below X6.out hv); replace M6 := Lib.hid (ReadM.below M6.out hv)
      have k60 := X6.out.c0; have k61 := X6.out.c1; rw [hw] at k60 k61
      go_wp2_with fail
      rw [← hw]
      clear hw hv
      clear k60 k61
      generalize wa.heap.size = gx at *
      go_at_call 34
      refine (impl_NormalOf A6 c6 P B6 e6 U (i : Int) wb M6.out.1 M6.out.2.1 M6.out.2.2.1 M6.out.2.2.2).mono ?_
      rw [HE2.out]
      rintro E wc ⟨p_, q_, s_, rfl, hp_, hq_, hs_, hb⟩
      obtain rfl : x' = p_ := val_some hp_.2
      obtain rfl : y' = q_ := val_some hq_.2
      obtain rfl : z' = s_ := val_some hs_.2
      clear hp_ hq_ hs_
      replace BB := Lib.hid (below_step BB.out hb)
      replace X5 := Lib.hid (BoxAt.below X5.out hb); replace M5 := Lib.hid (ReadM.below M5.out hb)
      replace X6 := Lib.hid (BoxAt.below X6.out hb); replace M6 := Lib.hid (ReadM.below M6.out hb)
      replace V1 := Lib.hid (V1.out.below hb)
      clear hb
      obtain ⟨wd, hw⟩ : ∃ W, W = wc.alloc (.cells #[.float .f32 x', .float .f32 y', .float .f32 z'] 59) := ⟨_, rfl⟩
      have hv : Below wc.heap.size wc wd := by rw [hw]; exact below_alloc (Below.refl _ _) _
      have V2 := Lib.hid (show BoxT wd wc.heap.size 59 x' y' z' by rw [hw]; exact BoxT.new wc 59 _ _ _)
      replace V1 := Lib.hid (V1.out.below hv)
      replace BB := Lib.hid (below_step BB.out hv)
      replace X5 := Lib.hid (BoxAt.below X5.out hv); replace M5 := Lib.hid (ReadM.below M5.out hv)
      replace X6 := Lib.hid (BoxAt.below X6.out hv); replace M6 := Lib.hid (ReadM.below M6.out hv)
      have m0 := V1.out.c0; have m1 := V1.out.c1; have m2 := V1.out.c2; have n0 := V2.out.c0; have n1 := V2.out.c1; have n2 := V2.out.c2; rw [hw] at m0 m1 m2 n0 n1 n2
      obtain ⟨nx, nx1, nx2⟩ := order_neg HF.out.1 HF.out.2.2.2.1
      obtain ⟨ny, ny1, ny2⟩ := order_neg HF.out.2.1 HF.out.2.2.2.2.1
      obtain ⟨nz, nz1, nz2⟩ := order_neg HF.out.2.2.1 HF.out.2.2.2.2.2
      replace nx1 := Lib.hid nx1; replace ny1 := Lib.hid ny1; replace nz1 := Lib.hid nz1
      have HW := Lib.hid hw
      clear hw
      go_wp2_with (first | ((with_reducible refine gate_dst (N := 179) rfl ?_); refine wpList_fneg rfl _ _ rfl _ _ rfl ?_; rw [nx1.out]) | ((with_reducible refine gate_dst (N := 187) rfl ?_); refine wpList_fneg rfl _ _ rfl _ _ rfl ?_; rw [ny1.out]) | ((with_reducible refine gate_dst (N := 195) rfl ?_); refine wpList_fneg rfl _ _ rfl _ _ rfl ?_; rw [nz1.out]) | fail)
      rw [← HW.out]
      exact ⟨⟨i + 1, hlt, by simp, BB, X5, M5, X6, M6⟩, by simp [intOf]; omega⟩
    · obtain rfl : i = T.length := by omega
      go_wp2_with fail
      go_ret
      exact ⟨rfl, BB.out⟩

end Go.Proofs.Ytnibobbfepdeiaa
namespace Go.Proofs.Ytnibobbfepdeiaa
open Go.ChangeShapes Go.WideShapes Go.ChangeAt Go.RowKit Go.Deep
open Go.ChangeMaps (open_string shut_string)

section
variable {H : Type} {enc : TypeId × Value → H} {P : Program} {w : World} {base : Nat} {spare : Nat → Bool} {held : Bool}

end
end Go.Proofs.Ytnibobbfepdeiaa
namespace Go.Proofs.Ytnibobbfepdeiaa
open Go.ChangeShapes Go.WideShapes Go.ChangeAt Go.RowKit Go.Deep
set_option linter.unusedVariables false

section
variable {H : Type} {enc : TypeId × Value → H} {P : Program} {w : World} {base : Nat} {spare : Nat → Bool} {held : Bool}
theorem trod_u8 {t : TypeId} {n : Nat} {v : Value} {x : DataW H × List MemPlace} (ht : P.underlying t = some (.int .u8)) (h : DataW.trod enc P w base spare held n t [v] = some x) :
    ∃ b : Nat, b < 256 ∧ v = .int .u8 (b : Int) := by
  cases n with
  | zero => simp [DataW.trod] at h
  | succ n =>
    simp only [DataW.trod, ht] at h
    cases v <;> simp at h
    rename_i k' b
    obtain ⟨⟨rfl, hw⟩, _⟩ := h
    have hb0 : IntKind.u8.min ≤ b ∧ b ≤ IntKind.u8.max := by simpa [Lit.wf] using hw
    have hb : 0 ≤ b ∧ b ≤ 255 := hb0
    exact ⟨b.toNat, by omega, by rw [Int.toNat_of_nonneg hb.1]⟩
theorem op_bytes {r : Reach} {b0 : Nat} {t f : TypeId} {v : Value} {d : DataW H} {p : List MemPlace} (ht : P.underlying t = some (.slice f)) (hf : P.underlying f = some (.int .u8)) (hc : P.cellsOf f = 1)
    (hv : Value.okWide P w r b0 t v) (h : DataW.Trod enc P w base spare held t v d p) :
    ∃ (A : Option Addr) (n cap : Nat), v = .slice A n cap ∧ Byt w A n := by
  obtain ⟨fuel, hfu⟩ := h
  obtain ⟨A, n, cap, rfl⟩ := okWide_slice ht hv
  simp only [Value.cells] at hfu
  rcases open_slice1 ht hc hfu with ⟨h0, _⟩ | ⟨a, len, cap', m, n', V, D, Pl, h0, hb, hl, hmx, hm, _, hV⟩
  · cases h0
    exact ⟨none, 0, 0, rfl, fun i hi => absurd hi (Nat.not_lt_zero _)⟩
  · cases h0
    have hm' : n ≤ m := by rw [hm]; split <;> omega
    refine ⟨some a, n, cap, rfl, fun i hi => ?_⟩
    obtain ⟨b, hb, hVb⟩ := trod_u8 hf (hV i (Nat.lt_of_lt_of_le hi hm')).2
    have hcell := (hV i (Nat.lt_of_lt_of_le hi hm')).1
    refine ⟨a, b, rfl, hb, ?_⟩
    rw [← hVb]
    simpa using hcell
end
end Go.Proofs.Ytnibobbfepdeiaa
