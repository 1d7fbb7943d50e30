/-
  The proof's texts, one behind the other: XMturn XUarea XUedge0 XUarea2 XUsum XUmono XUjoinp XUtwice XMapp2 XMgrid0 XA1 XFrac XSine XB2 XB3 XB4 XMring0 XUedge1 XUform XUgap XUturnp XUsame XUtplain XUball0 XUown.
-/
import Derived.Test.YtnibobbfepdeiaaMLTurnedb
import Derived.Test.YtnibobbfepdeiaaG8
import Derived.Laws.FloatArith
import Derived.Outline
import Derived.Test.YtnibobbfepdeiaaPMeshx29
import Derived.Test.YtnibobbfepdeiaaG7
import Derived.Test.YtnibobbfepdeiaaPMeshx53
import Derived.Test.YtnibobbfepdeiaaG9
namespace Go.Proofs.Ytnibobbfepdeiaa
open Fl Go.RowKit Go.Proofs.YtnibobbfepdeiaaW.PrintWords Go.Proofs.YtnibobbfepdeiaaW.PrintLast Go.Proofs.YtnibobbfepdeiaaW.PrintMore Go.Proofs.Ytnibobbfepdeiaa.PMesh Msh
set_option linter.unusedVariables false

/-- A triangle turned over. -/
def turn3 : List Int → List Int
  | [a, b, c] => [a, c, b]
  | t => t
/-- The first j triangles turned over. -/
def turnP (T : List (List Int)) (j : Nat) : List (List Int) := (T.take j).map turn3 ++ T.drop j
theorem turnP_zero (T : List (List Int)) : turnP T 0 = T := by simp [turnP]
theorem turnP_all (T : List (List Int)) : turnP T T.length = T.map turn3 := by simp [turnP]
theorem turnP_len (T : List (List Int)) (j : Nat) (h : j ≤ T.length) : (turnP T j).length = T.length := by simp [turnP]; omega
theorem turnP_get (T : List (List Int)) (j : Nat) (h : j < T.length) : (turnP T j).getD j [] = T[j] := by
  have hl : ((T.take j).map turn3).length = j := by simp; omega
  unfold turnP
  rw [List.getD_eq_getElem?_getD, List.getElem?_append_right (by omega), hl, Nat.sub_self, List.getElem?_drop, Nat.add_zero, List.getElem?_eq_getElem h]; rfl
theorem turnP_set (T : List (List Int)) (j : Nat) (h : j < T.length) : (turnP T j).set j (turn3 T[j]) = turnP T (j + 1) := by
  have hl : ((T.take j).map turn3).length = j := by simp; omega
  have e2 : T.drop j = T[j] :: T.drop (j + 1) := List.drop_eq_getElem_cons h
  unfold turnP
  rw [List.take_succ_eq_append_getElem h, List.map_append, e2, List.set_append, if_neg (by omega), hl, Nat.sub_self, List.set_cons_zero, List.append_assoc]
  rfl

/-- What TurnMesh answers. -/
def turnR (Q : List S59) (T : List (List Int)) : List S59 × List (List Int) × Bool := if validB Q.length T = true then (Q, T.map turn3, true) else ([], [], false)

set_option maxHeartbeats 4000000 in
set_option maxRecDepth 100000 in
theorem impl_TurnMesh (A : Option Addr) (c : Nat) (Q : List S59) (B : Option Addr) (e : Nat) (T : List (List Int)) (w : World) (hQ : Kd.C k59 w A Q.length Q) (hq : Q.length ≤ c) (hT : Kd.C (Kd.slice 2 (Kd.int .i64)) w B T.length T) (hqt : T.length ≤ e) :
    Calls Try.prog 28 #[.agg #[.slice A Q.length c, .slice B T.length e]] w (AnsM w (turnR Q T).1 (turnR Q T).2.1 (turnR Q T).2.2) := by
  obtain ⟨M1, hM⟩ : ∃ M, M = w.alloc (.cells #[.slice A Q.length c, .slice B T.length e] 30) := ⟨_, rfl⟩
  obtain ⟨W0, hW0⟩ : ∃ W0, W0 = M1.alloc (.cells #[.slice none 0 0, .slice none 0 0] 30) := ⟨_, rfl⟩
  have hms : M1.heap.size = w.heap.size + 1 := by rw [hM]; simp
  have hb0 : Below w.heap.size w W0 := by rw [hW0, hM]; exact below_alloc (below_alloc (Below.refl _ _) _) _
  have hbx : BoxAt W0 w.heap.size 30 (.slice A Q.length c) (.slice B T.length e) := by
    have := BoxAt.new w 30 (.slice A Q.length c) (.slice B T.length e)
    rw [← hM] at this
    rw [hW0]
    exact this.below (below_alloc (Below.refl _ _) _)
  have hf0 : BoxAt W0 (w.heap.size + 1) 30 (.slice none 0 0) (.slice none 0 0) := by have := BoxAt.new M1 30 (.slice none 0 0) (.slice none 0 0); rwa [hms, ← hW0] at this
  have HX0 := Lib.hid hbx
  have HB0 := Lib.hid hb0
  have F0 := Lib.hid hf0
  have hc0 := hbx.c0
  have hc1 := hbx.c1
  have HV := Lib.hid (fun (W : World) (h : Below w.heap.size w W) => impl_ValidMesh.calls 2097156 A c Q B e T _ W (Kd.C_below hQ h) hq (Kd.C_below hT h) hqt (valid_f Q T _ (by omega)))
  rw [hW0, hM] at hc0 hc1 HX0 HB0 F0
  by_cases hv : validB Q.length T = true
  · obtain ⟨v1, v2, v3⟩ := valid_rows hv
    have hr : turnR Q T = (Q, T.map turn3, true) := by unfold turnR; rw [if_pos hv]
    rw [hr]
    rw [hv] at HV
    have HC := Lib.hid (fun (W : World) (h : Below w.heap.size w W) => impl_copyMesh.calls 1048578 A c Q B e T Q T W (Kd.C_below hQ h) hq (Kd.C_below hT h) hqt (copy_f Q T (by omega) (by omega) (fun t ht => by have := v3 t ht; omega)))
    have H3 := Lib.hid v3
    clear hr hv hQ hT hq hqt hms hbx hf0 hb0 hW0 hM v3
    go_enter Try.func28, Try.ntmps28
    go_wp2_with (first
      | (go_at_call 41; refine (HV.out _ HB0.out).mono ?_; rintro E w1 ⟨rfl, hb⟩; have B1 := Lib.hid (below_then HB0.out hb HB0.out.size); have F1 := Lib.hid (F0.out.below hb); have hx1 := HX0.out.below hb; have hd0 := hx1.c0; have hd1 := hx1.c1; clear hb hc0 hc1)
      | (go_at_call 71; refine (HC.out _ B1.out).mono ?_; rintro E w3 ⟨v0, v1, rfl, hR, hS, hb⟩; obtain ⟨Aq, cq, rfl⟩ := Kd.R_slice hR; obtain ⟨At, ct, rfl⟩ := Kd.S_slice hS; have B3 := Lib.hid (below_then B1.out hb B1.out.size); have F3 := Lib.hid (F1.out.below hb); have O3 := Lib.hid (Kd.R_lower hR B1.out.size); have T3 := Lib.hid (Kd.S_lower hS B1.out.size); clear hR hS hb hd0 hd1 hx1)
      | fail)
    have hge : w.heap.size + 1 < w3.heap.size := F3.out.lt
    obtain ⟨w5, hw5⟩ : ∃ W, W = w3.alloc (.cells #[.slice Aq Q.length cq, .slice At T.length ct] 30) := ⟨_, rfl⟩
    have b5 : Below w.heap.size w w5 := by rw [hw5]; exact below_alloc B3.out _
    have c25 : BoxAt w5 (w.heap.size + 1) 30 (.slice none 0 0) (.slice none 0 0) := by rw [hw5]; exact F3.out.below (below_alloc (Below.refl _ _) _)
    have c35 : BoxAt w5 w3.heap.size 30 (.slice Aq Q.length cq) (.slice At T.length ct) := by rw [hw5]; exact BoxAt.new w3 30 _ _
    have o5 : Kd.R k59 59 w5 w.heap.size (fun _ => True) (.slice Aq Q.length cq) Q := by rw [hw5]; exact Kd.R_alloc O3.out _
    have t5 : Kd.S (Kd.slice 2 (Kd.int .i64)) 34 w5 w.heap.size (fun _ => True) (.slice At T.length ct) (turnP T 0) := by rw [hw5, turnP_zero]; exact Kd.S_alloc T3.out _
    rw [← hw5]
    clear hw5 B3 O3 T3 F3 B1 F1 HX0 HB0 F0 HV HC
    generalize w3.heap.size = g3 at *
    go_loopw [16] (fun k wr => ∃ (i : Nat), i ≤ T.length ∧ k = .int .i64 (i : Int) ∧ Hid (Below w.heap.size w wr) ∧ Hid (BoxAt wr (w.heap.size + 1) 30 (.slice none 0 0) (.slice none 0 0)) ∧ Hid (BoxAt wr g3 30 (.slice Aq Q.length cq) (.slice At T.length ct)) ∧ Hid (Kd.R k59 59 wr w.heap.size (fun _ => True) (.slice Aq Q.length cq) Q) ∧ Hid (Kd.S (Kd.slice 2 (Kd.int .i64)) 34 wr w.heap.size (fun _ => True) (.slice At T.length ct) (turnP T i))) (fun k _ => T.length - (intOf k).toNat)
    case atStart => exact ⟨0, Nat.zero_le _, rfl, Lib.hid b5, Lib.hid c25, Lib.hid c35, Lib.hid o5, Lib.hid t5⟩
    case round =>
      clear b5 c25 c35 o5 t5
      obtain ⟨i, hi, rfl, HB, C2, C3, CQ, CT⟩ := hrel
      by_cases hlt : i < T.length
      · have b1 : (i : Int) < (T.length : Int) := by omega
        have b2 : (0 : Int) ≤ (i : Int) := by omega
        have b3 : (i : Int) < 9223372036854775807 := by omega
        obtain ⟨gr, cr, er, _, _, _⟩ := Kd.S_form CT.out (by rw [turnP_len T i hi]; omega)
        obtain ⟨rfl, rfl⟩ : At = some ⟨gr, 0, none⟩ ∧ ct = cr := by injection er with h1 _ h3; exact ⟨h1, h3⟩
        obtain ⟨oki, cs, hcl, hM, hcc, hoki, hbk⟩ := Kd.S_borrow (Kd.S_drew CT.out) [] (i : Int) b2 (by omega)
        rw [Int.toNat_natCast, turnP_get T i hlt] at hM
        rw [Int.toNat_natCast] at hcc hbk
        obtain ⟨vi, rfl, hR⟩ := hM
        obtain ⟨Ai, ci, rfl⟩ := Kd.R_slice hR
        have hcell := hcc 0 _ rfl
        rw [show (Kd.slice 2 (Kd.int .i64)).sz = 1 from rfl, Nat.mul_one, Nat.add_zero, add_at, Nat.zero_add] at hcell
        have h3 := H3.out T[i] (List.getElem_mem hlt)
        have hset := turnP_set T i hlt
        generalize T[i] = t at *
        obtain ⟨x, y, z, rfl⟩ := tri3 h3
        have hcell2 : wr.cell? ⟨gr, i, none⟩ = some (.slice Ai 3 ci) := hcell
        have HBK := Lib.hid (fun (w1 : World) (row : Option Nat) (x' : List Int) (a : wr.drew.grownBy w1 row) (b : ∀ k, row = some k → oki k) (c : Kd.M (Kd.slice 2 (Kd.int .i64)) w1 w.heap.size oki x' [.slice Ai 3 ci]) => hbk (w1 := w1) (row := row) (x' := x') a b c)
        have HOK := Lib.hid hoki
        have HSET := Lib.hid hset
        have HR := Lib.hid hR
        have D2 := Lib.hid (blk_drew C2.out)
        have D3 := Lib.hid (blk_drew C3.out)
        have DQ := Lib.hid (Kd.R_drew CQ.out)
        have DB := Lib.hid (Below.drew HB.out)
        have hd1 := C3.out.c1
        clear hbk hoki hset hcell hcc er hcl
        go_wp2_with fail
        clear hcell2 hd1
        have hO := Kd.own_of_R HR.out
        obtain ⟨gi, ci', ei, hgb, _⟩ := World.ownsRow.form hO (by simp)
        obtain ⟨rfl, rfl⟩ : Ai = some ⟨gi, 0, none⟩ ∧ ci = ci' := by injection ei with h1 _ h3; exact ⟨h1, h3⟩
        have cy : wr.drew.cell? ⟨gi, 1, none⟩ = some (.int .i64 y) := (own_at_of (d := (0 : Int)) hO 1 (by simp) (by simp)).1
        have fy : wr.drew.frozen? ⟨gi, 1, none⟩ = false := (own_at_of (d := (0 : Int)) hO 1 (by simp) (by simp)).2
        have cz : wr.drew.cell? ⟨gi, 2, none⟩ = some (.int .i64 z) := (own_at_of (d := (0 : Int)) hO 2 (by simp) (by simp)).1
        have h1 := own_store_of (enc := Value.int .i64) hO 1 z
        have hO1 : (wr.drew.setCell ⟨gi, 1, none⟩ (.int .i64 z)).ownsRow w.heap.size 2 1 (.slice (some ⟨gi, 0, none⟩) 3 ci) 3 (encs (Value.int .i64) [x, z, z]) := h1.1
        have hg1 : wr.drew.grownBy (wr.drew.setCell ⟨gi, 1, none⟩ (.int .i64 z)) (some gi) := h1.2
        have cz2 : (wr.drew.setCell ⟨gi, 1, none⟩ (.int .i64 z)).cell? ⟨gi, 2, none⟩ = some (.int .i64 z) := (own_at_of (d := (0 : Int)) hO1 2 (by simp) (by simp)).1
        have fz2 : (wr.drew.setCell ⟨gi, 1, none⟩ (.int .i64 z)).frozen? ⟨gi, 2, none⟩ = false := (own_at_of (d := (0 : Int)) hO1 2 (by simp) (by simp)).2
        have h2 := own_store_of (enc := Value.int .i64) hO1 2 y
        have hO2 : ((wr.drew.setCell ⟨gi, 1, none⟩ (.int .i64 z)).setCell ⟨gi, 2, none⟩ (.int .i64 y)).ownsRow w.heap.size 2 1 (.slice (some ⟨gi, 0, none⟩) 3 ci) 3 (encs (Value.int .i64) [x, z, y]) := h2.1
        have hg2 : (wr.drew.setCell ⟨gi, 1, none⟩ (.int .i64 z)).grownBy ((wr.drew.setCell ⟨gi, 1, none⟩ (.int .i64 z)).setCell ⟨gi, 2, none⟩ (.int .i64 y)) (some gi) := h2.2
        have hg : wr.drew.grownBy ((wr.drew.setCell ⟨gi, 1, none⟩ (.int .i64 z)).setCell ⟨gi, 2, none⟩ (.int .i64 y)) (some gi) := World.grownBy.trans hg1 hg2
        have hin : ∀ k, (Value.slice (some ⟨gi, 0, none⟩) 3 ci).ownBlock = some k → oki k := fun k hk => HR.out.1 k hk
        have E2 := Lib.hid (blk_grown D2.out hg (Kd.R_ne HR.out D2.out (by decide)))
        have E3 := Lib.hid (blk_grown D3.out hg (Kd.R_ne HR.out D3.out (by decide)))
        have EQ := Lib.hid (Kd.R_over' DQ.out (Kd.R_typed HR.out) (by decide) hg)
        have et := HBK.out _ _ [x, z, y] hg hin ⟨_, rfl, Kd.R_of_own hO2 hin⟩
        rw [show [x, z, y] = turn3 [x, y, z] from rfl, HSET.out] at et
        have ET := Lib.hid et
        have EB := Lib.hid (below_set (j := 2) (v := .int .i64 y) (below_set (j := 1) (v := .int .i64 z) DB.out hgb) hgb)
        have cy1 := Lib.hid cy; have fy1 := Lib.hid fy; have cz1 := Lib.hid cz2; have fz1 := Lib.hid fz2
        refine start_ (n := 12) (S := fun w' => w'.cell? ⟨gi, 1, none⟩ = some (.int .i64 y) ∧ w'.cell? ⟨gi, 2, none⟩ = some (.int .i64 z)) (ds := [9, 11]) #[false, false, false, false, false, false, false, false, false, false, false, false] (by kernel_rfl) rfl rfl ⟨cy, cz⟩ (fun hHeld => ?_)
        clear cy fy cz cz2 fz2 hO hO1 hO2 h1 h2 hg1 hg2 hg et hin HBK HR D2 D3 DQ DB HSET HOK hR
        generalize wr.drew = w13 at cy1 fy1 cz1 fz1 E2 E3 EQ ET EB hHeld ⊢
        clear HB C2 C3 CQ CT
        refine pure_ (i := 0) (N := some 20) (v := ?_) (a' := ?_) #[true, false, false, false, false, false, false, false, false, false, false, false] rfl rfl (by kernel_rfl) (fun _ _ _ h => h) (Or.inl ⟨by rfl, ?_⟩) ?_ ?_
        rotate_left
        · intro w'
          go_simp
          with_reducible rfl
        rotate_left
        · simp only [Act.put, List.setIfInBounds_toArray, List.set_cons_zero, List.set_cons_succ]; rfl
        refine pure_ (i := 1) (N := some 21) (v := ?_) (a' := ?_) #[true, true, false, false, false, false, false, false, false, false, false, false] rfl rfl (by kernel_rfl) (fun _ _ _ h => h) (Or.inl ⟨by rfl, ?_⟩) ?_ ?_
        rotate_left
        · intro w'
          go_simp
          with_reducible rfl
        rotate_left
        · simp only [Act.put, List.setIfInBounds_toArray, List.set_cons_zero, List.set_cons_succ]; rfl
        refine pure_ (i := 2) (N := some 22) (v := ?_) (a' := ?_) #[true, true, true, false, false, false, false, false, false, false, false, false] rfl rfl (by kernel_rfl) (fun _ _ _ h => h) (Or.inl ⟨by rfl, ?_⟩) ?_ ?_
        rotate_left
        · intro w'
          go_simp
          with_reducible rfl
        rotate_left
        · simp only [Act.put, List.setIfInBounds_toArray, List.set_cons_zero, List.set_cons_succ]; rfl
        refine pure_ (i := 5) (N := some 25) (v := ?_) (a' := ?_) #[true, true, true, false, false, true, false, false, false, false, false, false] rfl rfl (by kernel_rfl) (fun _ _ _ h => h) (Or.inl ⟨by rfl, ?_⟩) ?_ ?_
        rotate_left
        · intro w'
          go_simp
          with_reducible rfl
        rotate_left
        · simp only [Act.put, List.setIfInBounds_toArray, List.set_cons_zero, List.set_cons_succ]; rfl
        refine pure_ (i := 3) (N := some 23) (v := ?_) (a' := ?_) #[true, true, true, true, false, true, false, false, false, false, false, false] rfl rfl (by kernel_rfl) (fun _ _ _ h => h) (Or.inl ⟨by rfl, ?_⟩) ?_ ?_
        rotate_left
        · intro w'
          go_simp
          with_reducible rfl
        rotate_left
        · simp only [Act.put, List.setIfInBounds_toArray, List.set_cons_zero, List.set_cons_succ]; rfl
        refine pure_ (i := 6) (N := some 26) (v := ?_) (a' := ?_) #[true, true, true, true, false, true, true, false, false, false, false, false] rfl rfl (by kernel_rfl) (fun _ _ _ h => h) (Or.inl ⟨by rfl, ?_⟩) ?_ ?_
        rotate_left
        · intro w'
          go_simp
          with_reducible rfl
        rotate_left
        · simp only [Act.put, List.setIfInBounds_toArray, List.set_cons_zero, List.set_cons_succ]; rfl
        refine take_ (i := 4) (N := some 24) (v := ?_) (a' := ?_) #[true, true, true, true, true, true, true, false, false, false, false, false] rfl rfl (by kernel_rfl) (fun _ _ _ h => h) (Or.inl ⟨by rfl, ?_⟩) hHeld ?_ ?_
        rotate_left
        · intro w' hSw
          (try dsimp only at hSw)
          go_simp
          with_reducible rfl
        rotate_left
        · simp only [Act.put, List.setIfInBounds_toArray, List.set_cons_zero, List.set_cons_succ]; rfl
        refine take_ (i := 7) (N := some 27) (v := ?_) (a' := ?_) #[true, true, true, true, true, true, true, true, false, false, false, false] rfl rfl (by kernel_rfl) (fun _ _ _ h => h) (Or.inl ⟨by rfl, ?_⟩) hHeld ?_ ?_
        rotate_left
        · intro w' hSw
          (try dsimp only at hSw)
          go_simp
          with_reducible rfl
        rotate_left
        · simp only [Act.put, List.setIfInBounds_toArray, List.set_cons_zero, List.set_cons_succ]; rfl
        refine pure_ (i := 8) (N := some 28) (v := ?_) (a' := ?_) #[true, true, true, true, true, true, true, true, true, false, false, false] rfl rfl (by kernel_rfl) (fun _ _ _ h => h) (Or.inl ⟨by rfl, ?_⟩) ?_ ?_
        rotate_left
        · intro w'
          go_simp
          with_reducible rfl
        rotate_left
        · simp only [Act.put, List.setIfInBounds_toArray, List.set_cons_zero, List.set_cons_succ]; rfl
        refine last_ (i := 9) (N := none) #[true, true, true, true, true, true, true, true, true, true, false, false] rfl rfl (by kernel_rfl) (by decide) (fun K hK => ?_)
        have hs1 := cy1.out; have hf1 := fy1.out
        refine skip_ (w1 := ?_) (by rfl) rfl ?_ ?_
        rotate_left
        · go_simp
          rfl
        refine hK.out _ _ ?_
        clear hK K
        clear hs1 hf1
        refine pure_ (i := 10) (N := some 29) (v := ?_) (a' := ?_) #[true, true, true, true, true, true, true, true, true, true, true, false] rfl rfl (by kernel_rfl) (fun _ _ _ h => h) (Or.inl ⟨by rfl, ?_⟩) ?_ ?_
        rotate_left
        · intro w'
          go_simp
          with_reducible rfl
        rotate_left
        · simp only [Act.put, List.setIfInBounds_toArray, List.set_cons_zero, List.set_cons_succ]; rfl
        refine last_ (i := 11) (N := none) #[true, true, true, true, true, true, true, true, true, true, true, true] rfl rfl (by kernel_rfl) (by decide) (fun K hK => ?_)
        have hs2 := cz1.out; have hf2 := fz1.out
        refine skip_ (w1 := ?_) (by rfl) rfl ?_ ?_
        rotate_left
        · go_simp
          rfl
        refine hK.out _ _ ?_
        clear hK K
        clear hs2 hf2
        refine done_ (by kernel_rfl) ?_
        go_wp2_with fail
        exact ⟨⟨i + 1, hlt, by simp, EB, E2, E3, EQ, ET⟩, by simp [intOf]; omega⟩
      · obtain rfl : i = T.length := by omega
        have hu := CT.out
        rw [turnP_all] at hu
        have hml : (T.map turn3).length = T.length := List.length_map _
        have f30 := C3.out.c0
        have f31 := C3.out.c1
        have f20 := C2.out.c0
        have f21 := C2.out.c1
        have q20 := blk_frozen C2.out 0
        have q21 := blk_frozen C2.out 1
        have HU := Lib.hid hu
        have HML := Lib.hid hml
        clear hu CT hml
        go_wp2_with fail
        ((try simp only [Exit.inBlock, Exit.then]); refine bodyPost_ret (by simp [results, Try.results28, go_sem, f20, f21, setCell_same_of, World.cell?_setCell_other]; try rfl) rfl ?_)
        have hk := kept_two (w := wr) (g := w.heap.size + 1) (.slice Aq Q.length cq) (.slice At T.length ct)
        refine ⟨Aq, cq, At, ct, by rw [HML.out], ⟨?_, ?_⟩, below_set (below_set HB.out (Nat.le_succ _)) (Nat.le_succ _)⟩
        · exact R_in (Kd.R_kept (Kd.R_types CQ.out C2.out (by decide)) hk (fun k hk => hk.2))
        · rw [HML.out]
          exact S_in (Kd.S_kept (Kd.S_types HU.out C2.out (by decide)) hk (fun k hk => hk.2))
  · have hv' := Bool.eq_false_iff.2 hv
    have hr : turnR Q T = ([], [], false) := by unfold turnR; rw [if_neg hv]
    rw [hr]
    rw [hv'] at HV
    clear hr hv hv' hQ hT hq hqt hms hbx hf0 hb0 hW0 hM
    go_enter Try.func28, Try.ntmps28
    go_wp2_with (first
      | (go_at_call 41; refine (HV.out _ HB0.out).mono ?_; rintro E w1 ⟨rfl, hb⟩; have B1 := Lib.hid (below_then HB0.out hb HB0.out.size); have hf1 := F0.out.below hb; have f0 := hf1.c0; have f1 := hf1.c1; have z0 := blk_frozen hf1 0; have z1 := blk_frozen hf1 1; clear hb hc0 hc1)
      | fail)
    ((try simp only [Exit.inBlock, Exit.then]); refine bodyPost_ret (by simp [results, Try.results28, go_sem, f0, f1, setCell_same_of, World.cell?_setCell_other]; try rfl) rfl ?_)
    exact ⟨none, 0, none, 0, rfl, ⟨Kd.R_nil _ _ _ _ _, Kd.S_nil _ _ _ _ _⟩, below_set (below_set B1.out (Nat.le_succ _)) (Nat.le_succ _)⟩

end Go.Proofs.Ytnibobbfepdeiaa
namespace Go.Proofs.Ytnibobbfepdeiaa
open Fl Go.RowKit Go.Proofs.YtnibobbfepdeiaaW.PrintWords Go.Proofs.Ytnibobbfepdeiaa.PMesh Msh Ieee
set_option linter.unusedVariables false

/-- The values of a place. -/
def PlOf (p : S59) (P : P3) : Prop := Fv (val .f32 p.f0) P.x ∧ Fv (val .f32 p.f1) P.y ∧ Fv (val .f32 p.f2) P.z
def noP : P3 := ⟨0, 0, 0⟩
structure Places (k : Nat) (Q : List S59) (L : List P3) : Prop where
  len : Q.length = L.length
  at_ : ∀ i (h : i < Q.length) (h' : i < L.length), PlOf Q[i] L[i] ∧ L[i].In (126 + k) (151 + k)
def triI (L : List P3) (t : List Int) : P3 := crossI (L.getD (rd t 0).toNat noP) (L.getD (rd t 1).toNat noP) (L.getD (rd t 2).toNat noP)
@[irreducible] def H148 : Nat := 2 ^ 148
theorem H148_eq : H148 = 2 ^ 148 := by unfold H148; rfl
/-- Half of a length. -/
def halfI (n : Nat) : Int := mI (H148 : Int) (n : Int)
def sumI (f : Nat → Int) : Nat → Int
  | 0 => 0
  | i + 1 => aI (sumI f i) (f i)
def termI (L : List P3) (T : List (List Int)) (i : Nat) : Int := halfI (lenI (triI L (T.getD i [])))

/-- Nothing, or not too small. -/
def Pos (v : Int) : Prop := 0 ≤ v ∧ (v = 0 ∨ 2 ^ 101 ≤ v.natAbs)
theorem rI_le' {f : Format} {V : Int} {B e c : Nat} (hc : c = e + B) (h : V.natAbs ≤ 2 ^ c) : (rI f V B).natAbs ≤ 2 ^ e := by subst hc; exact rI_le h
theorem rI_ge' {f : Format} {V : Int} {B e c : Nat} (hc : c = e + B) (h : 2 ^ c ≤ V.natAbs) : 2 ^ e ≤ (rI f V B).natAbs := by subst hc; rw [rI_abs]; exact rN_ge_pow f h
theorem half_gen {h n K : Nat} (hK : h = 2 ^ K) {i o i' o' : Nat} (hi : i + K = i' + 149) (ho : o + K = o' + 149) (hi23 : 172 ≤ i + K) (hn : n = 0 ∨ 2 ^ i ≤ n) (hn' : n ≤ 2 ^ o) :
    0 ≤ mI (h : Int) (n : Int) ∧ (mI (h : Int) (n : Int) = 0 ∨ 2 ^ i' ≤ (mI (h : Int) (n : Int)).natAbs) ∧ (mI (h : Int) (n : Int)).natAbs ≤ 2 ^ o' ∧ mI (h : Int) ((n * 2 ^ 2 : Nat) : Int) = mI (h : Int) (n : Int) * ((2 ^ 2 : Nat) : Int) := by
  have hp : (0 : Int) ≤ (h : Int) * (n : Int) := Int.mul_nonneg (Int.natCast_nonneg _) (Int.natCast_nonneg _)
  have e : ((h : Int) * (n : Int)).natAbs = n * 2 ^ K := by rw [Int.natAbs_mul, Int.natAbs_natCast, Int.natAbs_natCast, Nat.mul_comm, hK]
  refine ⟨rI_nonneg hp, ?_, rI_le' ho (by rw [e]; exact mul_pow_le hn' (Nat.le_refl _) rfl), ?_⟩
  · rcases hn with rfl | hn
    · left; unfold mI; rw [Int.natCast_zero, Int.mul_zero, rI_zero]
    · right
      exact rI_ge' hi (by rw [e]; exact mul_pow_ge hn (Nat.le_refl _) rfl)
  · have h0 := mI_scale (u := (h : Int)) (v := (n : Int)) 0 2 (by
      rcases hn with rfl | hn
      · left; rw [Int.natCast_zero, Int.mul_zero]
      · right
        rw [e]
        exact Nat.le_trans (pow_mono2 hi23) (mul_pow_ge hn (Nat.le_refl _) rfl))
    rw [Nat.pow_zero, Int.natCast_one, Int.mul_one, Nat.zero_add] at h0
    rw [Int.natCast_mul]
    exact h0
theorem half_in {n : Nat} (h : n = 0 ∨ 2 ^ 102 ≤ n) (h' : n ≤ 2 ^ 165) : Pos (halfI n) ∧ (halfI n).natAbs ≤ 2 ^ 164 ∧ halfI (n * 2 ^ 2) = halfI n * ((2 ^ 2 : Nat) : Int) := by
  obtain ⟨a, b, c, d⟩ := half_gen (h := H148) (K := 148) H148_eq (i := 102) (o := 165) (i' := 101) (o' := 164) (by omega) (by omega) (by omega) h h'
  exact ⟨⟨a, b⟩, c, d⟩

theorem sum_bd (f : Nat → Int) (hf : ∀ i, Pos (f i) ∧ (f i).natAbs ≤ 2 ^ 165) : ∀ i, Pos (sumI f i) ∧ (sumI f i).natAbs ≤ 2 ^ (165 + i)
  | 0 => ⟨⟨Int.le_refl _, .inl rfl⟩, Nat.zero_le _⟩
  | i + 1 => by
    obtain ⟨⟨h1, h2⟩, h3⟩ := sum_bd f hf i
    obtain ⟨⟨g1, g2⟩, g3⟩ := hf i
    have g4 := Nat.le_trans g3 (pow_mono2 (j := 165 + i) (by omega))
    refine ⟨⟨aI_nonneg h1 g1, ?_⟩, rI_le (B := 0) (natAbs_add_le h3 g4)⟩
    have hs : sumI f i + f i = 0 ∨ 2 ^ 101 ≤ (sumI f i + f i).natAbs := by omega
    show aI _ _ = 0 ∨ _
    rcases hs with hs | hs
    · left; unfold aI; rw [hs, rI_zero]
    · right
      show _ ≤ (aI _ _).natAbs
      unfold aI
      rw [rI_abs]
      exact rN_ge0 single hs
theorem sum_quad (f g : Nat → Int) (hf : ∀ i, Pos (f i) ∧ (f i).natAbs ≤ 2 ^ 165) (hg : ∀ i, g i = f i * ((2 ^ 2 : Nat) : Int)) : ∀ i, sumI g i = sumI f i * ((2 ^ 2 : Nat) : Int)
  | 0 => rfl
  | i + 1 => by
    obtain ⟨⟨h1, h2⟩, h3⟩ := sum_bd f hf i
    obtain ⟨⟨g1, g2⟩, g3⟩ := hf i
    show aI (sumI g i) (g i) = aI (sumI f i) (f i) * _
    rw [sum_quad f g hf hg i, hg i]
    refine aI_scale 2 ?_
    have h101 : (2 : Nat) ^ 23 ≤ 2 ^ 101 := pow_mono2 (by omega)
    omega
theorem sum_congr (f g : Nat → Int) (n : Nat) (h : ∀ i, i < n → f i = g i) : ∀ i, i ≤ n → sumI f i = sumI g i
  | 0, _ => rfl
  | i + 1, hi => by
    show aI (sumI f i) (f i) = aI (sumI g i) (g i)
    rw [sum_congr f g n h i (by omega), h i (by omega)]
end Go.Proofs.Ytnibobbfepdeiaa
namespace Go.Proofs.Ytnibobbfepdeiaa.Msh
open Fl Go.RowKit Go.Proofs.YtnibobbfepdeiaaW.PrintWords Go.Proofs.Ytnibobbfepdeiaa.PMesh
set_option linter.unusedVariables false

/-- The three tways of a triangle. -/
def ways3 (t : List Int) : List (Nat × Nat) := [((rd t 0).toNat, (rd t 1).toNat), ((rd t 1).toNat, (rd t 2).toNat), ((rd t 2).toNat, (rd t 0).toNat)]
def tways (T : List (List Int)) : List (Nat × Nat) := T.flatMap ways3
/-- A way's edge. -/
def edgeN (p : Nat × Nat) : Nat × Nat := (min p.1 p.2, max p.1 p.2)
theorem ways_snoc (T : List (List Int)) (t : List Int) : tways (T ++ [t]) = tways T ++ ways3 t := by simp [tways]
theorem ways3_nat (a b c : Nat) : ways3 [(a : Int), (b : Int), (c : Int)] = [(a, b), (b, c), (c, a)] := by simp [ways3, rd3_0, rd3_1, rd3_2]
theorem tri_natE {n : Nat} {t : List Int} (h : triB n t = true) : ∃ a b c : Nat, t = [(a : Int), (b : Int), (c : Int)] ∧ a < n ∧ b < n ∧ c < n ∧ a ≠ b ∧ b ≠ c ∧ a ≠ c := by
  obtain ⟨x, y, z, rfl⟩ := tri3 (triB_len h)
  rw [triB_rd n _ rfl] at h
  simp [inB, rd3_0, rd3_1, rd3_2] at h
  have e1 := of_decide_eq_true h.1.1.1; have e2 := of_decide_eq_true h.1.1.2; have e3 := of_decide_eq_true h.1.2
  exact ⟨x.toNat, y.toNat, z.toNat, by rw [Int.toNat_of_nonneg (show 0 ≤ x by omega), Int.toNat_of_nonneg (show 0 ≤ y by omega), Int.toNat_of_nonneg (show 0 ≤ z by omega)], by omega, by omega, by omega, by omega, by omega, by omega⟩
/-- Whether some triangle has two places. -/
def isE (T : List (List Int)) (a b : Nat) : Bool := T.any fun t => t.contains (a : Int) && t.contains (b : Int)
theorem mem_edges {n : Nat} {T : List (List Int)} (h : T.all (triB n) = true) {a b : Nat} (hab : a < b) : (a, b) ∈ (tways T).map edgeN ↔ isE T a b = true := by
  unfold isE tways
  rw [List.any_eq_true, List.map_flatMap, List.mem_flatMap]
  constructor
  · rintro ⟨t, ht, hp⟩
    refine ⟨t, ht, ?_⟩
    obtain ⟨x, y, z, rfl, _⟩ := tri_natE (List.all_eq_true.1 h t ht)
    rw [ways3_nat] at hp
    simp only [List.map_cons, List.map_nil, edgeN, List.mem_cons, List.not_mem_nil, or_false, Prod.mk.injEq] at hp
    simp only [List.contains_cons, List.contains_nil, Bool.or_false, Bool.and_eq_true, Bool.or_eq_true, beq_iff_eq]
    omega
  · rintro ⟨t, ht, hp⟩
    refine ⟨t, ht, ?_⟩
    obtain ⟨x, y, z, rfl, _⟩ := tri_natE (List.all_eq_true.1 h t ht)
    rw [ways3_nat]
    simp only [List.contains_cons, List.contains_nil, Bool.or_false, Bool.and_eq_true, Bool.or_eq_true, beq_iff_eq] at hp
    simp only [List.map_cons, List.map_nil, edgeN, List.mem_cons, List.not_mem_nil, or_false, Prod.mk.injEq]
    omega

/-- The edges from a on, and all. -/
def edgesA (n : Nat) (T : List (List Int)) (a : Nat) : List (List Int) := ((List.range n).filter fun b => decide (a < b) && isE T a b).map fun b : Nat => ([(a : Int), (b : Int)] : List Int)
def edgesL (n : Nat) (T : List (List Int)) : List (List Int) := (List.range n).flatMap (edgesA n T)
end Go.Proofs.Ytnibobbfepdeiaa.Msh
namespace Go.Proofs.Ytnibobbfepdeiaa
open Fl Go.RowKit Go.Proofs.YtnibobbfepdeiaaW.PrintWords Go.Proofs.Ytnibobbfepdeiaa.PMesh Msh Ieee
set_option linter.unusedVariables false

theorem cross_val {k : Nat} (hk : k ≤ 1) {a x y : S59} {A X Y : P3} (fa : PlOf a A) (fx : PlOf x X) (fy : PlOf y Y) (ia : A.In (126 + k) (151 + k)) (ix : X.In (126 + k) (151 + k)) (iy : Y.In (126 + k) (151 + k)) :
    Fv (crossV a x y).1 (crossI A X Y).x ∧ Fv (crossV a x y).2.1 (crossI A X Y).y ∧ Fv (crossV a x y).2.2 (crossI A X Y).z := by
  have d : ∀ {u v : Int}, In2 (126 + k) (151 + k) u → In2 (126 + k) (151 + k) v → In2 (126 + k) (152 + k) (dI u v) := fun h h' => by have := h.d h'; rwa [show 151 + k + 1 = 152 + k by omega] at this
  have f : ∀ {p q : Option Nat} {u v : Int}, Fv p u → Fv q v → In2 (126 + k) (151 + k) u → In2 (126 + k) (151 + k) v → Fv (bin .sub .f32 p q) (dI u v) := fun h h' g g' => h.d h' g g' (by omega) (by omega)
  have u0 := f fx.1 fa.1 ix.x ia.x; have u1 := f fx.2.1 fa.2.1 ix.y ia.y; have u2 := f fx.2.2 fa.2.2 ix.z ia.z
  have v0 := f fy.1 fa.1 iy.x ia.x; have v1 := f fy.2.1 fa.2.1 iy.y ia.y; have v2 := f fy.2.2 fa.2.2 iy.z ia.z
  exact ⟨crI_val hk u1 v2 u2 v1 (d ix.y ia.y) (d iy.z ia.z) (d ix.z ia.z) (d iy.y ia.y), crI_val hk u2 v0 u0 v2 (d ix.z ia.z) (d iy.x ia.x) (d ix.x ia.x) (d iy.z ia.z), crI_val hk u0 v1 u1 v0 (d ix.x ia.x) (d iy.y ia.y) (d ix.y ia.y) (d iy.x ia.x)⟩

theorem In2.zero (j e : Nat) : In2 j e 0 := ⟨Int.dvd_zero _, Nat.zero_le _⟩
theorem noP_in (j e : Nat) : noP.In j e := ⟨In2.zero j e, In2.zero j e, In2.zero j e⟩
def AllIn (k : Nat) (L : List P3) : Prop := ∀ p ∈ L, p.In (126 + k) (151 + k)
theorem AllIn.at_ {k : Nat} {L : List P3} (h : AllIn k L) (i : Nat) : (L.getD i noP).In (126 + k) (151 + k) := by
  rw [List.getD_eq_getElem?_getD]
  rcases Nat.lt_or_ge i L.length with hi | hi
  · rw [List.getElem?_eq_getElem hi]; exact h _ (List.getElem_mem hi)
  · rw [List.getElem?_eq_none hi]; exact noP_in _ _
theorem Places.all {k : Nat} {Q : List S59} {L : List P3} (h : Places k Q L) : AllIn k L := by
  intro p hp
  obtain ⟨i, hi, rfl⟩ := List.getElem_of_mem hp
  exact (h.at_ i (by rw [h.len]; exact hi) hi).2
theorem tri_in {k : Nat} {L : List P3} (h : AllIn k L) (t : List Int) : (triI L t).In (103 + 2 * k) (156 + 2 * k) := cross_in (h.at_ _) (h.at_ _) (h.at_ _)
theorem term_bd {k : Nat} (hk : k ≤ 1) {L : List P3} (h : AllIn k L) (T : List (List Int)) (i : Nat) : Pos (termI L T i) ∧ (termI L T i).natAbs ≤ 2 ^ 165 := by
  obtain ⟨h1, h2⟩ := lenI_bd (tri_in h (T.getD i [])) hk
  obtain ⟨a, b, _⟩ := half_in h1 h2
  exact ⟨a, Nat.le_trans b (pow_mono2 (by omega))⟩

theorem rdV3 (Q : List S59) (a : Nat) (h : a < Q.length) : rd_T59 Q (a : Int) = Q[a] := by
  unfold rd_T59
  rw [Int.toNat_natCast, List.getD_eq_getElem?_getD, List.getElem?_eq_getElem h]; rfl
theorem getD_at (L : List P3) (a : Nat) (h : a < L.length) : L.getD a noP = L[a] := by rw [List.getD_eq_getElem?_getD, List.getElem?_eq_getElem h]; rfl

theorem crossAt_val {k : Nat} (hk : k ≤ 1) {Q : List S59} {L : List P3} (h : Places k Q L) {T : List (List Int)} (hT : T.all (triB Q.length) = true) {i : Nat} (hi : i < T.length) :
    Fv (crossAt Q T (i : Int)).1 (triI L (T.getD i [])).x ∧ Fv (crossAt Q T (i : Int)).2.1 (triI L (T.getD i [])).y ∧ Fv (crossAt Q T (i : Int)).2.2 (triI L (T.getD i [])).z := by
  obtain ⟨a, b, c, et, ha, hb, hc, _⟩ := tri_natE (List.all_eq_true.1 hT T[i] (List.getElem_mem hi))
  have eg : T.getD i [] = [(a : Int), (b : Int), (c : Int)] := by rw [List.getD_eq_getElem?_getD, List.getElem?_eq_getElem hi]; exact et
  have e1 : rd_L3 T (i : Int) = [(a : Int), (b : Int), (c : Int)] := by rw [rdL T i hi, et]
  unfold crossAt triI
  rw [e1, eg]
  simp only [rd3_0, rd3_1, rd3_2, Int.toNat_natCast]
  have hl := h.len
  rw [rdV3 Q a ha, rdV3 Q b hb, rdV3 Q c hc, getD_at L a (by omega), getD_at L b (by omega), getD_at L c (by omega)]
  obtain ⟨pa, qa⟩ := h.at_ a ha (by omega)
  obtain ⟨pb, qb⟩ := h.at_ b hb (by omega)
  obtain ⟨pc, qc⟩ := h.at_ c hc (by omega)
  exact cross_val hk pa pb pc qa qb qc

theorem Fv_half : Fv (some 1056964608) (H148 : Int) := by
  refine ⟨_, rfl, by decide, ?_⟩
  rw [H148_eq]
  decide +kernel
theorem Dv0 (v : Int) : Dv 0 v := by unfold Dv; rw [Nat.pow_zero]; exact Int.one_dvd v
theorem area_val {k : Nat} (hk : k ≤ 1) {Q : List S59} {L : List P3} (h : Places k Q L) {T : List (List Int)} (hT : T.all (triB Q.length) = true) :
    ∀ i, i ≤ T.length → i ≤ 64 → Fv (areaV Q T i) (sumI (termI L T) i)
  | 0, _, _ => ⟨0, rfl, by decide, show iv single 0 = 0 by decide⟩
  | i + 1, hi, h64 => by
    have ih := area_val hk h hT i (by omega) (by omega)
    obtain ⟨c1, c2, c3⟩ := crossAt_val hk h hT (i := i) (by omega)
    have hin := tri_in h.all (T.getD i [])
    have hl := lenI_val hin hk c1 c2 c3
    obtain ⟨l1, l2⟩ := lenI_bd hin hk
    have hh : Fv (bin .mul .f32 (some 1056964608) (longX (crossAt Q T (i : Int)))) (halfI (lenI (triI L (T.getD i [])))) := by
      refine Fv_half.m (j := 0) (j' := 0) (e := 148) (e' := 165) (o := 164) hl ⟨Dv0 _, ?_⟩ ⟨Dv0 _, ?_⟩ (by omega) (by omega) (by omega)
      · rw [H148_eq, Int.natAbs_natCast]; exact Nat.le_refl _
      · rw [Int.natAbs_natCast]; exact l2
    obtain ⟨s1, s2⟩ := sum_bd (termI L T) (term_bd hk h.all T) i
    have hb := half_in l1 l2
    exact ih.a hh (j := 0) (e := 165 + i) ⟨Dv0 _, s2⟩ ⟨Dv0 _, Nat.le_trans hb.2.1 (pow_mono2 (by omega))⟩ (by omega) (by omega)

/-! ### turned over -/
theorem tri_turn (L : List P3) {n : Nat} {t : List Int} (ht : triB n t = true) : triI L (turn3 t) = (triI L t).neg := by
  obtain ⟨a, b, c, rfl, _⟩ := tri_natE ht
  unfold triI turn3
  simp only [rd3_0, rd3_1, rd3_2, Int.toNat_natCast]
  exact cross_swap _ _ _
theorem turn_at (T : List (List Int)) (i : Nat) (h : i < T.length) : (T.map turn3).getD i [] = turn3 (T.getD i []) := by
  rw [List.getD_eq_getElem?_getD, List.getD_eq_getElem?_getD, List.getElem?_map, List.getElem?_eq_getElem h]; rfl
theorem term_turn (L : List P3) {n : Nat} {T : List (List Int)} (hT : T.all (triB n) = true) (i : Nat) (h : i < T.length) : termI L (T.map turn3) i = termI L T i := by
  unfold termI
  have ht : triB n (T.getD i []) = true := by rw [List.getD_eq_getElem?_getD, List.getElem?_eq_getElem h]; exact List.all_eq_true.1 hT _ (List.getElem_mem h)
  rw [turn_at T i h, tri_turn L ht, lenI_neg]
/-! ### doubled -/
theorem up_at (L : List P3) (k i : Nat) : (L.map (P3.up k)).getD i noP = (L.getD i noP).up k := by
  rw [List.getD_eq_getElem?_getD, List.getD_eq_getElem?_getD, List.getElem?_map]
  cases L[i]? with
  | none => show noP = noP.up k; unfold noP P3.up; simp
  | some p => rfl
theorem term_dbl {L : List P3} (h : AllIn 0 L) (T : List (List Int)) (i : Nat) : termI (L.map (P3.up 1)) T i = termI L T i * ((2 ^ 2 : Nat) : Int) := by
  unfold termI triI
  rw [up_at, up_at, up_at, cross_dbl (h.at_ _) (h.at_ _) (h.at_ _)]
  have hin : (crossI (L.getD (rd (T.getD i []) 0).toNat noP) (L.getD (rd (T.getD i []) 1).toNat noP) (L.getD (rd (T.getD i []) 2).toNat noP)).In 103 156 := tri_in (k := 0) h (T.getD i [])
  rw [lenI_quad hin]
  obtain ⟨l1, l2⟩ := lenI_bd (k := 0) hin (by omega)
  exact (half_in l1 l2).2.2
end Go.Proofs.Ytnibobbfepdeiaa
namespace Go.Proofs.Ytnibobbfepdeiaa
open Fl Ieee
set_option linter.unusedVariables false

/-- The same sum, begun at A. -/
def sumFrom (A : Int) (f : Nat → Int) : Nat → Int
  | 0 => A
  | i + 1 => aI (sumFrom A f i) (f i)
theorem aI_err {u v : Int} (hu : 0 ≤ u) (hv : 0 ≤ v) : 16777216 * aI u v ≤ 16777216 * (u + v) + (u + v) ∧ 16777216 * (u + v) ≤ 16777216 * aI u v + (u + v) := by
  have h := rN_err single (u + v).natAbs
  have e : aI u v = (rN single (u + v).natAbs 0 : Int) := by unfold aI rI; rw [if_neg (by omega)]
  have c : 2 ^ (single.fractionBits + 1) = 16777216 := by decide
  rw [c] at h
  rw [e]
  have e2 : ((u + v).natAbs : Int) = u + v := by omega
  omega
theorem sum_nonneg (f : Nat → Int) (hf : ∀ i, 0 ≤ f i) : ∀ i, 0 ≤ sumI f i
  | 0 => Int.le_refl _
  | i + 1 => aI_nonneg (sum_nonneg f hf i) (hf i)
theorem from_nonneg (A : Int) (hA : 0 ≤ A) (f : Nat → Int) (hf : ∀ i, 0 ≤ f i) : ∀ i, 0 ≤ sumFrom A f i
  | 0 => hA
  | i + 1 => aI_nonneg (from_nonneg A hA f hf i) (hf i)

/-- The sum that goes on from A, against A and the sum from nothing; A is at least the sums from nothing, nearly. -/
theorem from_near (f : Nat → Int) (hf : ∀ i, 0 ≤ f i) (A : Int) (hA : 0 ≤ A) (n : Nat) (hn : n ≤ 64) (hm : ∀ i, i ≤ n → sumI f i ≤ 2 * A) :
    ∀ i, i ≤ n → 1048576 * (sumFrom A f i - A - sumI f i) ≤ (i : Int) * A ∧ -((i : Int) * A) ≤ 1048576 * (sumFrom A f i - A - sumI f i)
  | 0, _ => by
    have : sumFrom A f 0 = A := rfl
    have : sumI f 0 = 0 := rfl
    simp only [*]
    constructor <;> simp
  | i + 1, hi => by
    obtain ⟨h1, h2⟩ := from_near f hf A hA n hn hm i (by omega)
    have s0 := sum_nonneg f hf i
    have t0 := from_nonneg A hA f hf i
    obtain ⟨a1, a2⟩ := aI_err s0 (hf i)
    obtain ⟨b1, b2⟩ := aI_err t0 (hf i)
    have e1 : sumI f (i + 1) = aI (sumI f i) (f i) := rfl
    have e2 : sumFrom A f (i + 1) = aI (sumFrom A f i) (f i) := rfl
    have m1 := hm i (by omega)
    have m2 := hm (i + 1) hi
    have hiA : (i : Int) * A ≤ 64 * A := Int.mul_le_mul_of_nonneg_right (by omega) hA
    have e3 : ((i + 1 : Nat) : Int) * A = (i : Int) * A + A := by rw [Int.natCast_add, Int.add_mul]; simp
    rw [e3]
    rw [e1] at m2 ⊢
    rw [e2]
    generalize (i : Int) * A = iA at *
    generalize aI (sumI f i) (f i) = S' at *
    generalize aI (sumFrom A f i) (f i) = F' at *
    generalize sumI f i = S at *
    generalize sumFrom A f i = F at *
    have := hf i
    generalize f i = x at *
    omega
end Go.Proofs.Ytnibobbfepdeiaa
namespace Go.Proofs.Ytnibobbfepdeiaa
open Fl Go.RowKit Go.Proofs.YtnibobbfepdeiaaW.PrintWords Go.Proofs.Ytnibobbfepdeiaa.PMesh Msh Ieee
set_option linter.unusedVariables false

theorem aI_mono {X : Option Nat} {u v : Int} (hX : Fv X u) (hu : 0 ≤ u) (hv : 0 ≤ v) : u ≤ aI u v := by
  obtain ⟨b, rfl, hb, rfl⟩ := hX
  have hm : (iv single b).natAbs = mg single (rung single b) := by unfold iv; rw [sg_natAbs]
  have h := rN_ge single (n := (iv single b + v).natAbs) (B := 0) (s := rung single b) (by omega) (by rw [Nat.pow_zero, Nat.mul_one]; omega)
  unfold aI rI
  rw [if_neg (by omega)]
  omega
theorem sum_mono (f : Nat → Int) (hf : ∀ i, 0 ≤ f i) (n : Nat) (hv : ∀ i, i ≤ n → ∃ X, Fv X (sumI f i)) : ∀ d i, i + d = n → sumI f i ≤ sumI f n
  | 0, i, h => by rw [show i = n by omega]; exact Int.le_refl _
  | d + 1, i, h => by
    have h1 := sum_mono f hf n hv d (i + 1) (by omega)
    obtain ⟨X, hX⟩ := hv i (by omega)
    have h2 := aI_mono hX (sum_nonneg f hf i) (hf i)
    exact Int.le_trans h2 h1
theorem sum_from (f g : Nat → Int) (n : Nat) (h1 : ∀ i, i < n → g i = f i) (h2 : ∀ i, i < n → g (n + i) = f i) : ∀ i, i ≤ n → sumI g (n + i) = sumFrom (sumI f n) f i
  | 0, _ => sum_congr g f n h1 n (Nat.le_refl _)
  | i + 1, hi => by
    show aI (sumI g (n + i)) (g (n + i)) = aI (sumFrom (sumI f n) f i) (f i)
    rw [sum_from f g n h1 h2 i (by omega), h2 i (by omega)]
/-- The sum of a mesh and its turned over other half. -/
theorem sum_two (f g : Nat → Int) (n : Nat) (hn : n ≤ 64) (hf : ∀ i, 0 ≤ f i) (hv : ∀ i, i ≤ n → ∃ X, Fv X (sumI f i)) (h1 : ∀ i, i < n → g i = f i) (h2 : ∀ i, i < n → g (n + i) = f i) :
    16384 * (sumI g (n + n) - 2 * sumI f n).natAbs ≤ (sumI f n).natAbs := by
  have hA := sum_nonneg f hf n
  obtain ⟨a, b⟩ := from_near f hf (sumI f n) hA n hn (fun i hi => by have := sum_mono f hf n hv (n - i) i (by omega); omega) n (Nat.le_refl _)
  rw [sum_from f g n h1 h2 n (Nat.le_refl _)]
  have hnA : (n : Int) * sumI f n ≤ 64 * sumI f n := Int.mul_le_mul_of_nonneg_right (by omega) hA
  generalize (n : Int) * sumI f n = nA at *
  generalize sumFrom (sumI f n) f n = F at *
  generalize sumI f n = S at *
  omega
end Go.Proofs.Ytnibobbfepdeiaa
namespace Go.Proofs.Ytnibobbfepdeiaa
open Fl Go.RowKit Go.Proofs.YtnibobbfepdeiaaW.PrintWords Go.Proofs.Ytnibobbfepdeiaa.PMesh Msh Ieee
set_option linter.unusedVariables false

theorem tri_of {m a b c : Nat} (ha : a < m) (hb : b < m) (hc : c < m) (h1 : a ≠ b) (h2 : b ≠ c) (h3 : a ≠ c) : triB m [(a : Int), (b : Int), (c : Int)] = true := by
  show (decide ((a : Int) ≠ (b : Int)) && decide ((b : Int) ≠ (c : Int)) && decide ((a : Int) ≠ (c : Int)) && inB m a && inB m b && inB m c) = true
  have i1 : inB m (a : Int) = true := decide_eq_true (by omega)
  have i2 : inB m (b : Int) = true := decide_eq_true (by omega)
  have i3 : inB m (c : Int) = true := decide_eq_true (by omega)
  have d1 : decide ((a : Int) ≠ (b : Int)) = true := decide_eq_true (by omega)
  have d2 : decide ((b : Int) ≠ (c : Int)) = true := decide_eq_true (by omega)
  have d3 : decide ((a : Int) ≠ (c : Int)) = true := decide_eq_true (by omega)
  rw [i1, i2, i3, d1, d2, d3]; rfl
theorem turn3_ok {n : Nat} {t : List Int} (h : triB n t = true) : triB n (turn3 t) = true := by
  obtain ⟨a, b, c, rfl, ha, hb, hc, h1, h2, h3⟩ := tri_natE h
  exact tri_of ha hc hb h3 (fun e => h2 e.symm) h1
theorem turn_valid {n : Nat} {T : List (List Int)} (h : validB n T = true) : validB n (T.map turn3) = true := by
  obtain ⟨h1, h2, h3⟩ := validB_iff.1 h
  refine validB_iff.2 ⟨h1, by rw [List.length_map]; exact h2, ?_⟩
  rw [List.all_map]
  refine List.all_eq_true.2 fun t ht => turn3_ok (List.all_eq_true.1 h3 t ht)
theorem turn3_two {n : Nat} {t : List Int} (h : triB n t = true) : turn3 (turn3 t) = t := by
  obtain ⟨a, b, c, rfl, _⟩ := tri_natE h
  rfl
theorem turn_twice {n : Nat} {T : List (List Int)} (h : T.all (triB n) = true) : (T.map turn3).map turn3 = T := by
  rw [List.map_map]
  refine Eq.trans (List.map_congr_left (g := id) (fun t ht => turn3_two (List.all_eq_true.1 h t ht))) (List.map_id _)
theorem shift_nat (n a b c : Nat) (hn : n ≤ 64) (ha : a < n) (hb : b < n) (hc : c < n) : shiftT n [(a : Int), (b : Int), (c : Int)] = [((a + n : Nat) : Int), ((b + n : Nat) : Int), ((c + n : Nat) : Int)] := by
  show [wrap64 ((a : Int) + (n : Int)), wrap64 ((b : Int) + (n : Int)), wrap64 ((c : Int) + (n : Int))] = _
  rw [wrap_fit (by omega) (by omega), wrap_fit (by omega) (by omega), wrap_fit (by omega) (by omega)]
  simp
theorem shift_ok {n : Nat} (hn : n ≤ 64) {t : List Int} (h : triB n t = true) : triB (n + n) (shiftT n t) = true := by
  obtain ⟨a, b, c, rfl, ha, hb, hc, h1, h2, h3⟩ := tri_natE h
  rw [shift_nat n a b c hn ha hb hc]
  exact tri_of (by omega) (by omega) (by omega) (by omega) (by omega) (by omega)
theorem wide_ok {n : Nat} {t : List Int} (h : triB n t = true) : triB (n + n) t = true := by
  obtain ⟨a, b, c, rfl, ha, hb, hc, h1, h2, h3⟩ := tri_natE h
  exact tri_of (by omega) (by omega) (by omega) h1 h2 h3
/-- A mesh's triangles and the same turned over, over other places. -/
def bothT (n : Nat) (T : List (List Int)) : List (List Int) := joinT T (T.map turn3) n T.length
theorem both_eq (n : Nat) (T : List (List Int)) : bothT n T = T ++ (T.map turn3).map (shiftT n) := by
  unfold bothT joinT
  rw [List.take_of_length_le (by simp)]
theorem both_valid {n : Nat} {T : List (List Int)} (h : validB n T = true) (hn : n + n ≤ 64) (ht : T.length + T.length ≤ 128) : validB (n + n) (bothT n T) = true := by
  obtain ⟨h1, h2, h3⟩ := validB_iff.1 h
  rw [both_eq]
  refine validB_iff.2 ⟨hn, by simp; omega, ?_⟩
  rw [List.all_append, Bool.and_eq_true]
  refine ⟨List.all_eq_true.2 fun t ht => wide_ok (List.all_eq_true.1 h3 t ht), ?_⟩
  rw [List.all_map, List.all_map]
  exact List.all_eq_true.2 fun t ht => shift_ok h1 (turn3_ok (List.all_eq_true.1 h3 t ht))

theorem two_at (L : List P3) (a : Nat) (h : a < L.length) : (L ++ L).getD a noP = L.getD a noP := by
  rw [List.getD_eq_getElem?_getD, List.getD_eq_getElem?_getD, List.getElem?_append_left h]
theorem two_at2 (L : List P3) (a : Nat) : (L ++ L).getD (a + L.length) noP = L.getD a noP := by
  rw [List.getD_eq_getElem?_getD, List.getD_eq_getElem?_getD, List.getElem?_append_right (by omega), Nat.add_sub_cancel]
theorem term_both {L : List P3} {T : List (List Int)} (hT : T.all (triB L.length) = true) (hn : L.length ≤ 64) (i : Nat) (h : i < T.length) :
    termI (L ++ L) (bothT L.length T) i = termI L T i ∧ termI (L ++ L) (bothT L.length T) (T.length + i) = termI L T i := by
  have ht : triB L.length T[i] = true := List.all_eq_true.1 hT _ (List.getElem_mem h)
  have e0 : T.getD i [] = T[i] := by rw [List.getD_eq_getElem?_getD, List.getElem?_eq_getElem h]; rfl
  have e1 : (bothT L.length T).getD i [] = T[i] := by
    rw [both_eq, List.getD_eq_getElem?_getD, List.getElem?_append_left h, List.getElem?_eq_getElem h]; rfl
  have e2 : (bothT L.length T).getD (T.length + i) [] = shiftT L.length (turn3 T[i]) := by
    rw [both_eq, List.getD_eq_getElem?_getD, List.getElem?_append_right (by omega), Nat.add_sub_cancel_left, List.getElem?_map, List.getElem?_map, List.getElem?_eq_getElem h]; rfl
  unfold termI
  rw [e0, e1, e2]
  obtain ⟨a, b, c, et, ha, hb, hc, _⟩ := tri_natE ht
  have e3 := tri_turn L ht
  rw [et] at e3 ⊢
  have e4 : turn3 [(a : Int), (b : Int), (c : Int)] = [(a : Int), (c : Int), (b : Int)] := rfl
  have e5 : triI (L ++ L) [(a : Int), (b : Int), (c : Int)] = triI L [(a : Int), (b : Int), (c : Int)] := by
    unfold triI
    simp only [rd3_0, rd3_1, rd3_2, Int.toNat_natCast]
    rw [two_at L a ha, two_at L b hb, two_at L c hc]
  have e6 : triI (L ++ L) (shiftT L.length (turn3 [(a : Int), (b : Int), (c : Int)])) = triI L (turn3 [(a : Int), (b : Int), (c : Int)]) := by
    rw [e4, shift_nat L.length a c b hn ha hc hb]
    unfold triI
    simp only [rd3_0, rd3_1, rd3_2, Int.toNat_natCast]
    rw [two_at2, two_at2, two_at2]
  refine ⟨by rw [e5], ?_⟩
  rw [e6, e3, lenI_neg]
end Go.Proofs.Ytnibobbfepdeiaa
namespace Go.Proofs.Ytnibobbfepdeiaa
open Fl Go.RowKit Go.Proofs.YtnibobbfepdeiaaW.PrintWords Go.Proofs.Ytnibobbfepdeiaa.PMesh Msh Ieee
set_option linter.unusedVariables false

theorem rI_pow {x : Nat} (hx : rung single x < single.infRung) (k : Nat) : rI single (iv single x * ((2 ^ (149 + k) : Nat) : Int)) 149 = iv single x * ((2 ^ k : Nat) : Int) := by
  obtain ⟨m, j, _, e1, e2⟩ := read_fin_lt single hx
  have hab : (iv single x).natAbs = m * 2 ^ j := by unfold iv; rw [sg_natAbs, e1]
  have hfb : single.fractionBits = 23 := by decide
  rw [hfb] at e2
  have hn : (iv single x * ((2 ^ (149 + k) : Nat) : Int)).natAbs = m * 2 ^ (j + (149 + k)) := by rw [Int.natAbs_mul, Int.natAbs_natCast, hab, Nat.mul_assoc, ← Nat.pow_add]
  have hex := rN_exact single (n := m * 2 ^ (j + (149 + k))) (B := 149) (j := j + (149 + k)) (by omega) (Nat.dvd_mul_left _ _) (by
    rw [hfb, show j + (149 + k) + 23 + 1 = 24 + (j + (149 + k)) by omega, Nat.pow_add 2 24]
    exact Nat.mul_lt_mul_of_pos_right e2 (Nat.two_pow_pos _))
  have hr : rN single (m * 2 ^ (j + (149 + k))) 149 = m * 2 ^ (j + k) := by
    refine Nat.eq_of_mul_eq_mul_right (Nat.two_pow_pos 149) (hex.trans ?_)
    rw [Nat.mul_assoc, ← Nat.pow_add, show j + k + 149 = j + (149 + k) by omega]
  have hpos : 0 < 2 ^ (149 + k) := Nat.two_pow_pos _
  have hposk : 0 < 2 ^ k := Nat.two_pow_pos _
  have hs : (iv single x * ((2 ^ (149 + k) : Nat) : Int) < 0) ↔ iv single x < 0 := by
    constructor
    · intro hh
      refine Int.not_le.1 fun h' => ?_
      have := Int.mul_nonneg h' (Int.natCast_nonneg (2 ^ (149 + k)))
      omega
    · intro hh; exact Int.mul_neg_of_neg_of_pos hh (by omega)
  have hv : (((m * 2 ^ (j + k) : Nat)) : Int) = ((iv single x).natAbs : Int) * ((2 ^ k : Nat) : Int) := by rw [hab, ← Int.natCast_mul, Nat.mul_assoc, ← Nat.pow_add]
  unfold rI
  rw [hn, hr]
  by_cases h0 : iv single x < 0
  · rw [if_pos (hs.2 h0), hv, show ((iv single x).natAbs : Int) = -iv single x by omega, Int.neg_mul, Int.neg_neg]
  · rw [if_neg (fun h' => h0 (hs.1 h')), hv, show ((iv single x).natAbs : Int) = iv single x by omega]
theorem Fv.times {X : Option Nat} {v : Int} (h : Fv X v) {c k e : Nat} (hc : Fv (some c) ((2 ^ (149 + k) : Nat) : Int)) (hb : (v * ((2 ^ (149 + k) : Nat) : Int)).natAbs ≤ 2 ^ (e + 149)) (h1 : 23 ≤ e) (h2 : e ≤ 270) : Fv (bin .mul .f32 X (some c)) (v * ((2 ^ k : Nat) : Int)) := by
  have hm := h.mul hc e hb h1 h2
  obtain ⟨b, rfl, hfin, rfl⟩ := h
  rwa [rI_pow hfin k] at hm
theorem Fv.times' {X : Option Nat} {v : Int} (h : Fv X v) {c k e : Nat} (hc : Fv (some c) ((2 ^ (149 + k) : Nat) : Int)) (hb : (v * ((2 ^ (149 + k) : Nat) : Int)).natAbs ≤ 2 ^ (e + 149)) (h1 : 23 ≤ e) (h2 : e ≤ 270) : Fv (bin .mul .f32 (some c) X) (v * ((2 ^ k : Nat) : Int)) := by
  have hm := hc.mul h e (by rw [Int.mul_comm]; exact hb) h1 h2
  obtain ⟨b, rfl, hfin, rfl⟩ := h
  rw [Int.mul_comm, rI_pow hfin k] at hm
  exact hm
theorem Fv_two : Fv (some 1073741824) ((2 ^ (149 + 1) : Nat) : Int) := ⟨_, rfl, by decide, by decide +kernel⟩
theorem Fv_four : Fv (some 1082130432) ((2 ^ (149 + 2) : Nat) : Int) := ⟨_, rfl, by decide, by decide +kernel⟩

/-- The bits that a value is stored with read as the value. -/
theorem canB_val {X : Option Nat} {v : Int} (h : Fv X v) : Fv (val .f32 (canB X)) v := by
  obtain ⟨b, rfl, hb, rfl⟩ := h
  have e : canB (some b) = b := rfl
  rw [e]
  exact ⟨b, (nn_iff .f32 b).2 (Nat.le_of_lt hb), hb, rfl⟩
end Go.Proofs.Ytnibobbfepdeiaa
namespace Go.Proofs.Ytnibobbfepdeiaa
open Fl Go.RowKit Go.Proofs.YtnibobbfepdeiaaW.PrintWords Go.Proofs.YtnibobbfepdeiaaW.PrintLast Go.Proofs.YtnibobbfepdeiaaW.PrintMore Go.Proofs.Ytnibobbfepdeiaa.PMesh Msh
set_option linter.unusedVariables false

section
variable {P : Program} {ops : Array Oper} {rest : List Oper} {o : Oper} {a : Act} {Q : Exit → Act → World → Prop} {Kc : Act → World → Prop} {α : Type}
theorem zip_two (xs : List α) (p q : α) : (xs ++ [p, q]).zipIdx = xs.zipIdx ++ [(p, xs.length), (q, xs.length + 1)] := by
  rw [List.zipIdx_append]; simp
open Classical in
theorem S_append2 (d : Kd α) (hd : d.sz = 1) {w0 W : World} (base : Nat) (hgd : o.guard = none) (s x : Operand) (t e : TypeId) (z : Value) (bytes : Nat)
    (ho : o.op = .call { callee := .builtin .append, args := #[s, x], argTypes := #[t, t] })
    (ht : P.underlying t = some (.slice e)) (hinfo : (P.info? e).map (fun i => (i.zero, i.size, i.bytes)) = some (some z, d.sz, bytes)) (hz : z.cells.size = d.sz) (hb0 : 0 < bytes)
    (v : Value) (xs : List α) (p q : α) (u1 u2 : Value) (g : Nat) (ok okp okq : Nat → Prop) (hs : a.eval s = v) (hx : a.eval x = .slice (some ⟨g, 0, none⟩) 2 2) (hc1 : W.cell? ⟨g, 0, none⟩ = some u1) (hc2 : W.cell? ⟨g, 1, none⟩ = some u2)
    (hp : d.M W base okp p [u1]) (hq : d.M W base okq q [u2]) (hokp : ∀ k, okp k → ok k ∧ some k ≠ v.ownBlock) (hokq : ∀ k, okq k → ok k ∧ some k ≠ v.ownBlock) (hpq : ∀ k, okp k → ¬ okq k) (hfresh : ∀ k, W.heap.size ≤ k → ok k)
    (HO : Kd.S d e W base (fun k => ok k ∧ ¬ okp k ∧ ¬ okq k) v xs) (HB : Below base w0 W) (hbase : base ≤ W.heap.size) (hl : (xs.length + 2) * bytes ≤ 140737488355328)
    (h : ∀ v1 w1, Kd.S d e w1 base ok v1 (xs ++ [p, q]) → Below base w0 w1 → W.grownBy w1 v.ownBlock → (v1.ownBlock = v.ownBlock ∨ ∃ b, v1.ownBlock = some b ∧ W.heap.size ≤ b) → wpList P ops Q rest (a.put o.dst v1) w1) :
    wpList P ops Q (o :: rest) a W := by
  obtain ⟨f, hR⟩ := HO
  have hR' : (Kd.tag (fun k => if okp k then xs.length else if okq k then xs.length + 1 else f k) d).R e W base (fun k => ok k ∧ ¬ okp k ∧ ¬ okq k) v xs.zipIdx :=
    Kd.R_tag hR (fun k hk _ => by show (if okp k then _ else if okq k then _ else f k) = f k; rw [if_neg hk.2.1, if_neg hk.2.2])
  refine Kd.R_append_rows (Kd.tag (fun k => if okp k then xs.length else if okq k then xs.length + 1 else f k) d) (Rr := fun y cs => (y = (p, xs.length) ∧ cs = [u1]) ∨ (y = (q, xs.length + 1) ∧ cs = [u2])) base hgd s x t e z bytes ho ht hinfo hz (by show 0 < d.sz; omega) hb0 v xs.zipIdx [(p, xs.length), (q, xs.length + 1)] (some ⟨g, 0, none⟩) 2 2 ok (fun k => okp k ∨ okq k) hs hx (Kd.R_mono hR' (fun _ hk => hk.1)) ⟨rfl, by decide, fun _ => ⟨_, rfl, ?_⟩⟩ ?_ (fun k hk => hk.elim (hokp k) (hokq k)) hfresh HB hbase (by rw [List.length_zipIdx]; exact hl) ?_
  · intro j y hj
    show ∃ c : List Value, c.length = d.sz ∧ _ ∧ ∀ i u, c[i]? = some u → W.cell? _ = some u
    rcases j with _ | _ | j
    · simp only [List.getElem?_cons_zero, Option.some.injEq] at hj
      refine ⟨[u1], by rw [hd]; rfl, Or.inl ⟨hj.symm, rfl⟩, fun i u hu => ?_⟩
      rcases i with _ | i
      · simp only [List.getElem?_cons_zero, Option.some.injEq] at hu
        rw [← hu]
        show W.cell? (Addr.add ⟨g, 0, none⟩ (0 * d.sz + 0)) = _
        rw [hd, add_at]; exact hc1
      · simp at hu
    · simp only [List.getElem?_cons_succ, List.getElem?_cons_zero, Option.some.injEq] at hj
      refine ⟨[u2], by rw [hd]; rfl, Or.inr ⟨hj.symm, rfl⟩, fun i u hu => ?_⟩
      rcases i with _ | i
      · simp only [List.getElem?_cons_zero, Option.some.injEq] at hu
        rw [← hu]
        show W.cell? (Addr.add ⟨g, 0, none⟩ ((0 + 1) * d.sz + 0)) = _
        rw [hd, add_at]; exact hc2
      · simp at hu
    · simp at hj
  · rintro y cs (⟨rfl, rfl⟩ | ⟨rfl, rfl⟩)
    · exact d.M_mono (fun k hk => ⟨Or.inl hk, if_pos hk⟩) hp
    · exact d.M_mono (fun k hk => ⟨Or.inr hk, by show (if okp k then _ else if okq k then _ else f k) = xs.length + 1; rw [if_neg (fun h2 => hpq k h2 hk), if_pos hk]⟩) hq
  · intro v1 w1 hr
    rw [← zip_two] at hr
    exact h v1 w1 ⟨_, hr⟩
end
end Go.Proofs.Ytnibobbfepdeiaa
namespace Go.Proofs.Ytnibobbfepdeiaa
open Fl Go.RowKit Go.Proofs.YtnibobbfepdeiaaW.PrintWords Go.Proofs.YtnibobbfepdeiaaW.PrintLast Go.Proofs.YtnibobbfepdeiaaW.PrintMore Go.Proofs.Ytnibobbfepdeiaa.PMesh Msh
set_option linter.unusedVariables false
set_option linter.unusedSimpArgs false

/-- A place of a grid, its rows m long. -/
def gptV (v m k : Nat) : S59 := ⟨canB (bin .mul .f32 (val .f32 (floatOfInt .f32 ((k % m : Nat) : Int))) (val .f32 v)), canB (bin .mul .f32 (val .f32 (floatOfInt .f32 ((k / m : Nat) : Int))) (val .f32 v)), 0⟩
def gridP (W H v : Nat) : List S59 := (List.range ((H + 1) * (W + 1))).map (gptV v (W + 1))
/-- The two triangles of a cell. -/
def triA (W x y : Nat) : List Int := [(x : Int) + ((W : Int) + 1) * (y : Int), (x : Int) + ((W : Int) + 1) * (y : Int) + 1, (x : Int) + ((W : Int) + 1) * (y : Int) + (W : Int) + 1 + 1]
def triC (W x y : Nat) : List Int := [(x : Int) + ((W : Int) + 1) * (y : Int), (x : Int) + ((W : Int) + 1) * (y : Int) + (W : Int) + 1 + 1, (x : Int) + ((W : Int) + 1) * (y : Int) + (W : Int) + 1]
def gridTn (W n : Nat) : List (List Int) := (List.range n).flatMap fun k => [triA W (k % W) (k / W), triC W (k % W) (k / W)]
def gridT (W H : Nat) : List (List Int) := gridTn W (H * W)
theorem gridTn_succ (W n : Nat) : gridTn W (n + 1) = gridTn W n ++ [triA W (n % W) (n / W), triC W (n % W) (n / W)] := by unfold gridTn; rw [List.range_succ, List.flatMap_append]; simp
theorem gridTn_len (W n : Nat) : (gridTn W n).length = 2 * n := by
  induction n with
  | zero => rfl
  | succ n ih => rw [gridTn_succ, List.length_append, ih]; simp; omega
/-- n places of a grid, up to what no law sees. -/
def PL (v m n : Nat) (l : List S59) : Prop := simP l ((List.range n).map (gptV v m))
theorem PL.len {v m n : Nat} {l : List S59} (h : PL v m n l) : l.length = n := by have := h.1; rwa [List.length_map, List.length_range] at this
theorem PL.zero (v m : Nat) : PL v m 0 [] := simP_nil
theorem PL.step {v m x y : Nat} {l : List S59} (h : PL v m (y * m + x) l) (hx : x < m) {p q : Nat} (hp : FR .f32 p (bin .mul .f32 (val .f32 (floatOfInt .f32 (x : Int))) (val .f32 v))) (hq : FR .f32 q (bin .mul .f32 (val .f32 (floatOfInt .f32 (y : Int))) (val .f32 v))) : PL v m (y * m + (x + 1)) (l ++ [⟨p, q, 0⟩]) := by
  have e1 : (y * m + x) % m = x := by rw [Nat.add_comm, Nat.add_mul_mod_self_right, Nat.mod_eq_of_lt hx]
  have e2 : (y * m + x) / m = y := by rw [Nat.add_comm, Nat.add_mul_div_right _ _ (by omega), Nat.div_eq_of_lt hx, Nat.zero_add]
  unfold PL
  rw [show y * m + (x + 1) = (y * m + x) + 1 from rfl, List.range_succ, List.map_append, List.map_singleton]
  refine simP_append h (simP_one ?_)
  unfold gptV
  rw [e1, e2]
  exact ⟨canB_sim hp, canB_sim hq, simF_self (show 0 < 4294967296 by decide)⟩
theorem gridTn_step (W x y : Nat) (hx : x < W) : gridTn W (y * W + (x + 1)) = gridTn W (y * W + x) ++ [triA W x y, triC W x y] := by
  have e1 : (y * W + x) % W = x := by rw [Nat.add_comm, Nat.add_mul_mod_self_right, Nat.mod_eq_of_lt hx]
  have e2 : (y * W + x) / W = y := by rw [Nat.add_comm, Nat.add_mul_div_right _ _ (by omega), Nat.div_eq_of_lt hx, Nat.zero_add]
  rw [show y * W + (x + 1) = (y * W + x) + 1 from rfl, gridTn_succ, e1, e2]
theorem PL.row {v m y : Nat} {l : List S59} (h : PL v m (y * m + m) l) : PL v m ((y + 1) * m) l := by rwa [Nat.succ_mul]
/-- A mesh is handed back: its places up to what no law sees. -/
def AnsG (w : World) (P : List S59) (T : List (List Int)) (E : Ending) (w' : World) : Prop := ∃ P' A c B e, simP P' P ∧ E = .returned (.agg #[.slice A P.length c, .slice B T.length e]) ∧ OwnM w' w.heap.size w'.heap.size (.slice A P.length c) (.slice B T.length e) P' T ∧ Below w.heap.size w w'
end Go.Proofs.Ytnibobbfepdeiaa
namespace Go.Proofs.Ytnibobbfepdeiaa
open Fl Go.RowKit
set_option linter.unusedVariables false

/-- x - x == 0. -/
def isFin (X : Option Nat) : Bool := cmp .f32 (bin .sub .f32 X X) (some 0) == some .eq

theorem spec_l01Finite (x : Nat) (w : World) : Calls Try.prog 90 #[.float .f32 x] w fun e w' => e = .returned (.bool (isFin (val .f32 x))) ∧ ∃ n, w' = w.drewN n := by
  go_enter Try.func90, Try.ntmps90
  go_wp2_with (refine wpList_fbin rfl _ _ _ _ _ rfl (by decide) _ _ _ rfl rfl ?_; intro r n hr)
  go_ret
  refine ⟨?_, n, rfl⟩
  show Ending.returned (.bool (FloatKind.f32.format.order r 0 == some .eq)) = _
  rw [order_cmp, hr.val]; rfl

end Go.Proofs.Ytnibobbfepdeiaa
namespace Go.Proofs.Ytnibobbfepdeiaa.Fl
open Ieee
set_option linter.unusedVariables false

theorem cut_zero (s : Bool) (n d : Nat) : Toward.zero.cut s n d = n / 2 ^ d := by
  unfold Toward.cut
  dsimp only
  by_cases h : d ≤ n.log2 + 2
  · rw [gap_eq n d h]; rfl
  · rw [Nat.min_eq_right (by omega), Nat.shiftLeft_eq, Nat.one_mul]
    have hlt : n < 2 ^ (n.log2 + 1) := Nat.lt_log2_self
    have h1 : 2 ^ (n.log2 + 1) ≤ 2 ^ (n.log2 + 2) := Nat.pow_le_pow_right (by omega) (by omega)
    have h2 : 2 ^ (n.log2 + 1) ≤ 2 ^ d := Nat.pow_le_pow_right (by omega) (by omega)
    rw [Nat.div_eq_of_lt (by omega), Nat.div_eq_of_lt (by omega)]; rfl

/-- A finite float64's whole part: n whole units below its magnitude. -/
theorem toInt_fin (U : Nat) (hL : double.leastPlace = -(U : Int)) {b : Nat} (h : rung double b < double.infRung) : ∃ n : Nat, (double.read b).toInt .zero = some (sg (sgn double b) n) ∧ n * 2 ^ U ≤ mg double (rung double b) ∧ mg double (rung double b) < (n + 1) * 2 ^ U := by
  obtain ⟨m, j, hr, hm⟩ := read_fin double h
  rw [hr]
  simp only [Datum.toInt, Datum.integral]
  rw [cut_zero, signed_sg, Nat.pow_zero, Nat.mul_one, Nat.shiftLeft_eq]
  refine ⟨_, rfl, ?_, ?_⟩
  all_goals rw [← hm]
  all_goals rw [hL]
  all_goals
    by_cases hj : j ≤ U
    · rw [show (-(U : Int) + (j : Int)).toNat = 0 by omega, show (-(-(U : Int) + (j : Int))).toNat = U - j by omega, Nat.pow_zero, Nat.mul_one]
      have e : 2 ^ U = 2 ^ (U - j) * 2 ^ j := by rw [← Nat.pow_add]; congr 1; omega
      rw [e, ← Nat.mul_assoc]
      have hp : 0 < 2 ^ (U - j) := Nat.two_pow_pos _
      have hdm := Nat.div_add_mod m (2 ^ (U - j))
      have hlt := Nat.mod_lt m hp
      first
        | (refine Nat.mul_le_mul_right _ ?_; rw [Nat.mul_comm]; omega)
        | (refine Nat.mul_lt_mul_of_pos_right ?_ (Nat.two_pow_pos _); rw [Nat.add_mul, Nat.one_mul, Nat.mul_comm]; omega)
    · rw [show (-(U : Int) + (j : Int)).toNat = j - U by omega, show (-(-(U : Int) + (j : Int))).toNat = 0 by omega, Nat.pow_zero, Nat.div_one]
      have e : 2 ^ j = 2 ^ (j - U) * 2 ^ U := by rw [← Nat.pow_add]; congr 1; omega
      rw [e, ← Nat.mul_assoc]
      first
        | exact Nat.le_refl _
        | exact Nat.mul_lt_mul_of_pos_right (by omega) (Nat.two_pow_pos _)

/-- A whole number below 2^53 as a float64 is exact. -/
theorem ofInt_spec (U : Nat) (hL : double.leastPlace = -(U : Int)) (s : Bool) (n : Nat) (hn : n < 2 ^ 53) : rung double (floatOfInt .f64 (sg s n)) < double.infRung ∧ iv double (floatOfInt .f64 (sg s n)) = sg s n * ((2 ^ U : Nat) : Int) := by
  have hnear : Near double (floatOfInt .f64 (sg s n)) (sg s (n * 2 ^ U)) 0 := by
    show Near double (double.nearest (decide (sg s n < 0)) (sg s n).natAbs 0) _ 0
    refine near_nearest double _ _ 0 U 0 (by rw [hL]; omega) _ ?_ ?_
    · rw [sg_natAbs, sg_natAbs]
    · intro h
      rw [decide_eq_decide, sg_mul]
      have hp : (0 : Int) < ((2 ^ U : Nat) : Int) := by exact_mod_cast Nat.two_pow_pos _
      constructor
      · intro h'
        have := Int.mul_neg_of_neg_of_pos h' hp
        omega
      · intro h'
        refine Int.not_le.1 fun h2 => ?_
        have := Int.mul_nonneg h2 (Int.le_of_lt hp)
        omega
  obtain ⟨t, ht⟩ := mg_surj double n U hn
  have htlt : t < double.infRung := by
    rw [← mg_lt_iff double, ht]
    have : n * 2 ^ U < 2 ^ 53 * 2 ^ U := Nat.mul_lt_mul_of_pos_right hn (Nat.two_pow_pos _)
    have hU : U = 1074 := by have : double.leastPlace = -1074 := by decide
                             omega
    subst hU
    have h2 : 2 ^ 53 * 2 ^ 1074 < mg double double.infRung := by decide +kernel
    omega
  have hrung : rung double (floatOfInt .f64 (sg s n)) = t := hnear.eq (by omega) (by rw [ht, sg_natAbs]; simp)
  refine ⟨by rw [hrung]; exact htlt, ?_⟩
  unfold iv
  rw [hrung, ht, ← sg_mul]
  by_cases hv : sg s (n * 2 ^ U) = 0
  · have h0 : n * 2 ^ U = 0 := by have := congrArg Int.natAbs hv; rwa [sg_natAbs] at this
    rw [h0]; unfold sg; simp
  · rw [hnear.sign hv, ← sg_sign _ _ hv]

/-- x less its whole part is at most one. -/
theorem frac_le (U : Nat) (hL : double.leastPlace = -(U : Int)) {b : Nat} (h : rung double b < double.infRung) (hb : mg double (rung double b) < 2 ^ 52 * 2 ^ U) (one : Nat) (hone : mg double one = 2 ^ U) :
    ∃ n : Int, floatToIntVal .f64 b .i64 = some n ∧ ∃ r, bin .sub .f64 (some b) (some (floatOfInt .f64 n)) = some r ∧ rung double r ≤ one := by
  obtain ⟨n, hn, h1, h2⟩ := toInt_fin U hL h
  have hnlt : n < 2 ^ 52 := by
    have : n * 2 ^ U < 2 ^ 52 * 2 ^ U := by omega
    exact Nat.lt_of_mul_lt_mul_right this
  refine ⟨sg (sgn double b) n, ?_, ?_⟩
  · unfold floatToIntVal
    have hn' : (FloatKind.f64.decode b).toInt .zero = some (sg (sgn double b) n) := hn
    rw [hn']
    dsimp only
    have : IntKind.i64.min ≤ sg (sgn double b) n ∧ sg (sgn double b) n ≤ IntKind.i64.max := by
      have hmin : IntKind.i64.min = -9223372036854775808 := by decide
      have hmax : IntKind.i64.max = 9223372036854775807 := by decide
      rw [hmin, hmax]; unfold sg; cases sgn double b <;> simp <;> omega
    rw [if_pos this]
  · obtain ⟨hf, hv⟩ := ofInt_spec U hL (sgn double b) n (by omega)
    obtain ⟨r, hr, hnear⟩ := near_sub .f64 (x := b) (y := floatOfInt .f64 (sg (sgn double b) n)) h hf
    refine ⟨r, hr, hnear.le (s := one) ?_⟩
    have hv' : iv FloatKind.f64.format (floatOfInt .f64 (sg (sgn double b) n)) = sg (sgn double b) n * ((2 ^ U : Nat) : Int) := hv
    rw [hv', ← sg_mul]
    show (iv double b - sg (sgn double b) (n * 2 ^ U)).natAbs ≤ mg double one * 2 ^ 0
    rw [hone, Nat.pow_zero, Nat.mul_one]
    unfold iv sg
    rw [Nat.add_mul, Nat.one_mul] at h2
    generalize n * 2 ^ U = Q at *
    generalize 2 ^ U = V at *
    cases sgn double b <;> simp <;> omega

/-- A value is a finite number of magnitude at most R's. -/
def Bd (X : Option Nat) (R : Nat) : Prop := ∃ b, X = some b ∧ rung double b ≤ R

theorem Bd.mono {X : Option Nat} {R S : Nat} (h : Bd X R) (hs : R ≤ S) : Bd X S := let ⟨b, e, l⟩ := h; ⟨b, e, Nat.le_trans l hs⟩

theorem Bd.const (c : Nat) : Bd (some c) (rung double c) := ⟨c, rfl, Nat.le_refl _⟩

theorem iv_abs (f : Format) (b : Nat) : (iv f b).natAbs = mg f (rung f b) := sg_natAbs _ _

theorem Bd.add {X Y : Option Nat} {R S : Nat} (hx : Bd X R) (hy : Bd Y S) (T : Nat) (hR : R < double.infRung) (hS : S < double.infRung) (hT : mg double R + mg double S ≤ mg double T) : Bd (bin .add .f64 X Y) T := by
  obtain ⟨x, rfl, lx⟩ := hx
  obtain ⟨y, rfl, ly⟩ := hy
  obtain ⟨r, hr, hn⟩ := near_add .f64 (x := x) (y := y) (by show rung double x < double.infRung; omega) (by show rung double y < double.infRung; omega)
  refine ⟨r, hr, hn.le (s := T) ?_⟩
  have h1 := (mg_le_iff double).2 lx
  have h2 := (mg_le_iff double).2 ly
  have e1 := iv_abs double x
  have e2 := iv_abs double y
  show (iv double x + iv double y).natAbs ≤ mg double T * 2 ^ 0
  rw [Nat.pow_zero, Nat.mul_one]
  omega

theorem Bd.sub {X Y : Option Nat} {R S : Nat} (hx : Bd X R) (hy : Bd Y S) (T : Nat) (hR : R < double.infRung) (hS : S < double.infRung) (hT : mg double R + mg double S ≤ mg double T) : Bd (bin .sub .f64 X Y) T := by
  obtain ⟨x, rfl, lx⟩ := hx
  obtain ⟨y, rfl, ly⟩ := hy
  obtain ⟨r, hr, hn⟩ := near_sub .f64 (x := x) (y := y) (by show rung double x < double.infRung; omega) (by show rung double y < double.infRung; omega)
  refine ⟨r, hr, hn.le (s := T) ?_⟩
  have h1 := (mg_le_iff double).2 lx
  have h2 := (mg_le_iff double).2 ly
  have e1 := iv_abs double x
  have e2 := iv_abs double y
  show (iv double x - iv double y).natAbs ≤ mg double T * 2 ^ 0
  rw [Nat.pow_zero, Nat.mul_one]
  omega

theorem Bd.mul {X Y : Option Nat} {R S : Nat} (hx : Bd X R) (hy : Bd Y S) (T : Nat) (hR : R < double.infRung) (hS : S < double.infRung) (hT : mg double R * mg double S ≤ mg double T * 2 ^ under double) : Bd (bin .mul .f64 X Y) T := by
  obtain ⟨x, rfl, lx⟩ := hx
  obtain ⟨y, rfl, ly⟩ := hy
  obtain ⟨r, hr, hn⟩ := near_mul .f64 (x := x) (y := y) (by show rung double x < double.infRung; omega) (by show rung double y < double.infRung; omega)
  refine ⟨r, hr, hn.le (s := T) ?_⟩
  have h1 := (mg_le_iff double).2 lx
  have h2 := (mg_le_iff double).2 ly
  show (iv double x * iv double y).natAbs ≤ mg double T * 2 ^ under double
  rw [Int.natAbs_mul, iv_abs, iv_abs]
  exact Nat.le_trans (Nat.mul_le_mul h1 h2) hT

/-- A quotient by a constant. -/
theorem Bd.quo {X : Option Nat} {R : Nat} (hx : Bd X R) (c : Nat) (T : Nat) (hR : R < double.infRung) (hc : rung double c < double.infRung) (hc0 : 0 < rung double c) (hT : 2 * mg double R * 2 ^ under double ≤ mg double T * mg double (rung double c)) : Bd (bin .quo .f64 X (some c)) T := by
  obtain ⟨x, rfl, lx⟩ := hx
  obtain ⟨r, hr, hq⟩ := quo_le .f64 (x := x) (y := c) (by show rung double x < double.infRung; omega) hc hc0
  refine ⟨r, hr, hq T ?_⟩
  have h1 := (mg_le_iff double).2 lx
  exact Nat.le_trans (Nat.mul_le_mul_right _ (Nat.mul_le_mul_left _ h1)) hT

/-- The negated value. -/
def negV64 (X : Option Nat) : Option Nat := X.map (· ^^^ 9223372036854775808)

theorem neg_bits64 (x : Nat) (hx : x < 18446744073709551616) : (x ^^^ 9223372036854775808) < 18446744073709551616 ∧ (x ^^^ 9223372036854775808) % 9223372036854775808 = x % 9223372036854775808 := by
  have h1 : x ^^^ 9223372036854775808 < 2 ^ 64 := Nat.xor_lt_two_pow (by omega) (by decide)
  refine ⟨h1, ?_⟩
  show (x ^^^ 2 ^ 63) % 2 ^ 63 = x % 2 ^ 63
  rw [Nat.xor_mod_two_pow]
  simp

theorem Bd.neg {X : Option Nat} {R : Nat} (hx : Bd X R) (hlt : ∀ b, X = some b → b < 18446744073709551616) : Bd (negV64 X) R := by
  obtain ⟨x, rfl, lx⟩ := hx
  refine ⟨_, rfl, ?_⟩
  have := (neg_bits64 x (hlt x rfl)).2
  show (x ^^^ 9223372036854775808) % 9223372036854775808 ≤ R
  rw [this]; exact lx

theorem Bd.narOk {X : Option Nat} {R : Nat} (hx : Bd X R) (h : mg double R ≤ mg single (single.infRung - 1) * 2 ^ 925) : NarOk X := by
  obtain ⟨x, rfl, lx⟩ := hx
  exact NarOk.of_le (Nat.le_trans ((mg_le_iff double).2 lx) h)

end Go.Proofs.Ytnibobbfepdeiaa.Fl
namespace Go.Proofs.Ytnibobbfepdeiaa.Fl
open Ieee
set_option linter.unusedVariables false

def ONE : Nat := 4607182418800017408
def TWO : Nat := 4611686018427387904
def HALF : Nat := 4602678819172646912
def QUARTER : Nat := 4598175219545276416
def TURN : Nat := 4618760256179416344
/-- 2k(2k+1) for k from 8 down to 1. -/
def sinCs : List Nat := [4643492690795692032, 4641592734702895104, 4639692778610098176, 4637440978796412928, 4634766966517661696, 4631107791820423168, 4626322717216342016, 4618441417868443648]
def sinC (i : Nat) : Nat := sinCs.getD i 0
/-- The series' value behind i rounds. -/
def sinP (u : Option Nat) : Nat → Option Nat
  | 0 => some ONE
  | i + 1 => bin .sub .f64 (some ONE) (bin .quo .f64 (bin .mul .f64 u (sinP u i)) (some (sinC i)))

def geqV (X Y : Option Nat) : Bool := cmp .f64 X Y == some .gt || cmp .f64 X Y == some .eq
def gtV (X Y : Option Nat) : Bool := cmp .f64 X Y == some .gt
def ltV (X Y : Option Nat) : Bool := cmp .f64 X Y == some .lt

theorem vZERO : val .f64 0 = some 0 := (nn_iff .f64 0).2 (by decide)
theorem vONE : val .f64 4607182418800017408 = some ONE := (nn_iff .f64 4607182418800017408).2 (by decide)
theorem vHALF : val .f64 4602678819172646912 = some HALF := (nn_iff .f64 4602678819172646912).2 (by decide)
theorem vQUARTER : val .f64 4598175219545276416 = some QUARTER := (nn_iff .f64 4598175219545276416).2 (by decide)
theorem vTURN : val .f64 4618760256179416344 = some TURN := (nn_iff .f64 4618760256179416344).2 (by decide)

/-- x without its whole part n, not below zero. -/
def fracV (X : Option Nat) (n : Int) : Option Nat :=
  let f := bin .sub .f64 X (some (floatOfInt .f64 n))
  if ltV f (some 0) then bin .add .f64 f (some ONE) else f

def fold1 (f : Option Nat) : Option Nat := if geqV f (some HALF) then bin .sub .f64 f (some HALF) else f
def fold2 (f : Option Nat) : Option Nat := if gtV f (some QUARTER) then bin .sub .f64 (some HALF) f else f
def sinZ (f : Option Nat) : Option Nat := bin .mul .f64 (fold2 (fold1 f)) (some TURN)
def sinQ (f : Option Nat) : Option Nat := bin .mul .f64 (sinZ f) (sinP (bin .mul .f64 (sinZ f) (sinZ f)) 8)
/-- The sine of f turns, f from 0 to 1. -/
def sineV (f : Option Nat) : Option Nat := if geqV f (some HALF) then negV64 (sinQ f) else sinQ f

/-! ### It stays small -/

def sinTs : List Nat := [4607182418800017408, 4629700416936869888, 4656722014701092864, 4683743612465315840, 4715268809856909312, 4746794007248502784, 4782822804267466752, 4823355200913801216, 4872894796814876672]
def sinT (i : Nat) : Nat := sinTs.getD i 0

theorem sinT_step : ∀ i, i < 8 → ∃ a b, mg double 4661225614328463360 * mg double (sinT i) ≤ mg double a * 2 ^ 1074 ∧ 2 * mg double a * 2 ^ 1074 ≤ mg double b * mg double (sinC i) ∧ mg double ONE + mg double b ≤ mg double (sinT (i + 1)) ∧ a < double.infRung ∧ b < double.infRung ∧ sinT i < double.infRung ∧ sinC i < double.infRung ∧ 0 < sinC i ∧ rung double (sinC i) = sinC i := by
  intro i hi
  match i, hi with
  | 0, _ => exact ⟨4661225614328463360, 4629418941960159232, by decide +kernel⟩
  | 1, _ => exact ⟨4683743612465315840, 4656717616654581760, by decide +kernel⟩
  | 2, _ => exact ⟨4710765210229538816, 4683743543745839104, by decide +kernel⟩
  | 3, _ => exact ⟨4737786807993761792, 4715268809320038400, by decide +kernel⟩
  | 4, _ => exact ⟨4769312005385355264, 4746794007244308480, by decide +kernel⟩
  | 5, _ => exact ⟨4800837202776948736, 4782822804267450368, by decide +kernel⟩
  | 6, _ => exact ⟨4836865999795912704, 4823355200913801184, by decide +kernel⟩
  | 7, _ => exact ⟨4877398396442247168, 4872894796814876671, by decide +kernel⟩

theorem sinP_bd {u : Option Nat} (hu : Bd u 4661225614328463360) : ∀ i, i ≤ 8 → Bd (sinP u i) (sinT i) := by
  intro i
  induction i with
  | zero => intro _; exact Bd.const ONE
  | succ i ih =>
    intro hi
    obtain ⟨a, b, h1, h2, h3, ha, hb, hT, hc, hc0, hcr⟩ := sinT_step i (by omega)
    have hp := ih (by omega)
    have e1 := Bd.mul hu hp a (by decide) hT (by rw [under_double]; exact h1)
    have e2 := Bd.quo e1 (sinC i) b ha (by rw [hcr]; exact hc) (by rw [hcr]; exact hc0) (by rw [hcr, under_double]; exact h2)
    exact Bd.sub (Bd.const ONE) e2 (sinT (i + 1)) (by decide) hb (by rw [show rung double ONE = ONE by decide]; exact h3)

theorem frac_bd {X : Option Nat} {n : Int} (h : Bd (bin .sub .f64 X (some (floatOfInt .f64 n))) ONE) : Bd (fracV X n) TWO := by
  unfold fracV
  dsimp only
  split
  · exact Bd.add h (Bd.const ONE) TWO (by decide) (by decide) (by decide +kernel)
  · exact h.mono (by decide)

theorem sinZ_bd {f : Option Nat} (h : Bd f TWO) : Bd (sinZ f) 4634204016564240384 := by
  unfold sinZ
  have h1 : Bd (fold1 f) 4616189618054758400 := by
    unfold fold1
    split
    · exact Bd.sub h (Bd.const HALF) _ (by decide) (by decide) (by decide +kernel)
    · exact h.mono (by decide)
  have h2 : Bd (fold2 (fold1 f)) 4620693217682128896 := by
    unfold fold2
    split
    · exact Bd.sub (Bd.const HALF) h1 _ (by decide) (by decide) (by decide +kernel)
    · exact h1.mono (by decide)
  exact Bd.mul h2 (Bd.const TURN) _ (by decide) (by decide) (by rw [under_double]; decide +kernel)

theorem sinQ_bd {f : Option Nat} (h : Bd f TWO) : Bd (sinQ f) 4899916394579099648 := by
  unfold sinQ
  have hz := sinZ_bd h
  have hu : Bd (bin .mul .f64 (sinZ f) (sinZ f)) 4661225614328463360 := Bd.mul hz hz _ (by decide) (by decide) (by rw [under_double]; decide +kernel)
  have hp := sinP_bd hu 8 (Nat.le_refl _)
  exact Bd.mul hz hp _ (by decide) (by decide) (by rw [under_double]; decide +kernel)

theorem bin_lt {op : BinOp} {X Y : Option Nat} {b : Nat} (h : bin op .f64 X Y = some b) : b < 18446744073709551616 := by
  cases X with
  | none => cases h
  | some x =>
    cases Y with
    | none => cases h
    | some y => exact floatBits_lt (k := .f64) h

theorem sineV_bd {f : Option Nat} (h : Bd f TWO) : Bd (sineV f) 4899916394579099648 := by
  unfold sineV
  split
  · exact (sinQ_bd h).neg (fun b hb => bin_lt hb)
  · exact sinQ_bd h

theorem sineV_ok {f : Option Nat} (h : Bd f TWO) : NarOk (sineV f) := (sineV_bd h).narOk (by decide +kernel)

end Go.Proofs.Ytnibobbfepdeiaa.Fl
namespace Go.Proofs.Ytnibobbfepdeiaa
open Fl Ieee Go.RowKit
set_option linter.unusedVariables false

theorem val_ofInt (n : Int) : val .f64 (floatOfInt .f64 n) = some (floatOfInt .f64 n) := write_val .f64 (d := .number (decide (n < 0)) n.natAbs 0) rfl

theorem FR_neg64 {x : Nat} {X : Option Nat} (h : FR .f64 x X) : FR .f64 (x ^^^ 9223372036854775808) (negV64 X) := by
  have hx : x < 18446744073709551616 := h.lt
  have hb := neg_bits64 x hx
  refine ⟨hb.1, ?_⟩
  rw [← h.val, val64, val64, hb.2]
  split <;> rfl

end Go.Proofs.Ytnibobbfepdeiaa
namespace Go.Proofs.Ytnibobbfepdeiaa
open Fl Ieee Go.RowKit
set_option linter.unusedVariables false

theorem sin_wrap : ∀ i : Nat, i < 8 → floatOfInt .f64 (wrap64 (2 * (8 - (i : Int)) * (2 * (8 - (i : Int)) + 1))) = sinC i := by
  intro i hi
  match i, hi with
  | 0, _ => decide +kernel
  | 1, _ => decide +kernel
  | 2, _ => decide +kernel
  | 3, _ => decide +kernel
  | 4, _ => decide +kernel
  | 5, _ => decide +kernel
  | 6, _ => decide +kernel
  | 7, _ => decide +kernel

theorem spec_sine_111 (x : Nat) (n : Int) (hn : floatToIntVal .f64 x .i64 = some n) (hfin : cmp .f64 (bin .sub .f64 (val .f64 x) (val .f64 x)) (some 0) = some .eq) (hhi : (FloatKind.f64.format.order x 4841369599423283200 == some .gt || FloatKind.f64.format.order x 4841369599423283200 == some .eq) = false) (hlo : (FloatKind.f64.format.order x 14064741636278059008 == some .lt || FloatKind.f64.format.order x 14064741636278059008 == some .eq) = false) (F : Option Nat) (hF : fracV (val .f64 x) n = F) (b1 : geqV F (some HALF) = true) (b2 : gtV (fold1 F) (some QUARTER) = true) (b0 : ltV (bin .sub .f64 (val .f64 x) (some (floatOfInt .f64 n))) (some 0) = true) (w : World) :
    Calls Try.prog 115 #[.float .f64 x] w fun e w' => ∃ r, e = .returned (.float .f64 r) ∧ FR .f64 r (sineV F) ∧ ∃ n, w' = w.drewN n := by
  have hc : ∀ w, (convert 56 2 (.float .f64 x)).run Try.prog w = .ok (.int .i64 n) w := fun w => run_convert_float_int w 56 2 .f64 .i64 x n (by kernel_rfl) (by kernel_rfl) hn
  have HFIN : Hid (cmp .f64 (bin .sub .f64 (val .f64 x) (val .f64 x)) (some 0) = some .eq) := hfin
  have HB0 : Hid (ltV (bin .sub .f64 (val .f64 x) (some (floatOfInt .f64 n))) (some 0) = true) := b0
  have HF0 : Hid (fracV (val .f64 x) n = bin .add .f64 (bin .sub .f64 (val .f64 x) (some (floatOfInt .f64 n))) (some ONE)) := by unfold Hid fracV; dsimp only; rw [b0]; rfl
  have hF1 : fold1 F = (bin .sub .f64 F (some HALF)) := by unfold fold1; rw [b1]; rfl
  have hF2 : fold2 (fold1 F) = (bin .sub .f64 (some HALF) (bin .sub .f64 F (some HALF))) := by unfold fold2; rw [b2, hF1]; rfl
  have b2' := b2
  rw [hF1] at b2'
  have HF : Hid (fracV (val .f64 x) n = F) := hF
  have HB1 : Hid (geqV F (some HALF) = true) := b1
  have HB2 : Hid (gtV (bin .sub .f64 F (some HALF)) (some QUARTER) = true) := b2'
  have HF2 : Hid (fold2 (fold1 F) = (bin .sub .f64 (some HALF) (bin .sub .f64 F (some HALF)))) := hF2
  clear hF b1 b2 b2' hF1 hF2 b0 hfin hn
  go_enter Try.func115, Try.ntmps115
  go_wp2_with (first | ((refine wpList_fbin (o := ⟨some 11, _, _, _, _, _⟩) rfl _ _ _ _ _ rfl (by decide) _ _ _ rfl rfl ?_; intro y ny hy); have ty : (FloatKind.f64.format.order y 0 != some .eq) = false := (by rw [order_cmp, hy.val, vZERO, HFIN.out]; rfl)) | ((refine wpList_fbin (o := ⟨some 24, _, _, _, _, _⟩) rfl _ _ _ _ _ rfl (by decide) _ _ _ rfl rfl ?_; intro f nf hf; rw [val_ofInt] at hf); have t0 : (FloatKind.f64.format.order f 0 == some .lt) = true := (by rw [order_cmp, hf.val, vZERO]; exact HB0.out)) | ((refine wpList_fbin (o := ⟨some 28, _, _, _, _, _⟩) rfl _ _ _ _ _ rfl (by decide) _ _ _ rfl rfl ?_; intro e ne he; rw [hf.val, vONE, ← HF0.out, HF.out] at he); have t1 : (FloatKind.f64.format.order e 4602678819172646912 == some .gt || FloatKind.f64.format.order e 4602678819172646912 == some .eq) = true := (by rw [order_cmp, he.val, vHALF]; exact HB1.out)) | ((refine wpList_fbin (o := ⟨some 33, _, _, _, _, _⟩) rfl _ _ _ _ _ rfl (by decide) _ _ _ rfl rfl ?_; intro g ng hg; rw [he.val, vHALF] at hg); have t2 : (FloatKind.f64.format.order g 4598175219545276416 == some .gt) = true := (by rw [order_cmp, hg.val, vQUARTER]; exact HB2.out)) | (refine wpList_fbin (o := ⟨some 37, _, _, _, _, _⟩) rfl _ _ _ _ _ rfl (by decide) _ _ _ rfl rfl ?_; intro k nk hk; rw [hg.val, vHALF] at hk) | (refine wpList_fbin (o := ⟨some 39, _, _, _, _, _⟩) rfl _ _ _ _ _ rfl (by decide) _ _ _ rfl rfl ?_; intro z nz hz; rw [hk.val, vTURN, ← HF2.out] at hz) | (refine wpList_fbin (o := ⟨some 42, _, _, _, _, _⟩) rfl _ _ _ _ _ rfl (by decide) _ _ _ rfl rfl ?_; intro u nu hu; rw [hz.val] at hu) | fail)
  go_loopw [7, 8] (fun p k wr => ∃ i : Nat, i ≤ 8 ∧ ∃ pb : Nat, p = .float .f64 pb ∧ k = .int .i64 (8 - (i : Int)) ∧ FR .f64 pb (sinP (bin .mul .f64 (sinZ F) (sinZ F)) i) ∧ ∃ n, wr = w.drewN n) (fun _ k _ => (intOf k).toNat)
  case atStart => exact ⟨0, by omega, _, rfl, rfl, ⟨by decide, vONE⟩, _, rfl⟩
  case round =>
    obtain ⟨i, hi, pb, rfl, rfl, hp, nw, rfl⟩ := hrel
    by_cases hlt : i < 8
    · have hb1 : (1 : Int) ≤ 8 - (i : Int) := by omega
      have hb8 : (8 : Int) - (i : Int) ≤ 8 := by omega
      go_wp2_with (first | (refine wpList_fbin (o := ⟨some 49, _, _, _, _, _⟩) rfl _ _ _ _ _ rfl (by decide) _ _ _ rfl rfl ?_; intro m nm hm; rw [hu.val, hp.val] at hm) | (refine wpList_fbin (o := ⟨some 57, _, _, _, _, _⟩) rfl _ _ _ _ _ rfl (by decide) _ _ _ rfl rfl ?_; intro q nq hq; rw [hm.val, val_ofInt, sin_wrap i hlt] at hq) | (refine wpList_fbin (o := ⟨some 58, _, _, _, _, _⟩) rfl _ _ _ _ _ rfl (by decide) _ _ _ rfl rfl ?_; intro r nr hr; rw [vONE, hq.val] at hr) | fail)
      go_roundw
      case rel => exact ⟨i + 1, by omega, _, rfl, by congr 1; omega, hr, _, rfl⟩
      case measure => simp [intOf]; omega
    · obtain rfl : i = 8 := by omega
      go_wp2_with (first | (refine wpList_fbin (o := ⟨some 62, _, _, _, _, _⟩) rfl _ _ _ _ _ rfl (by decide) _ _ _ rfl rfl ?_; intro q nq hq; rw [hz.val, hp.val] at hq) | fail)
      go_ret
      refine ⟨_, rfl, ?_, _, rfl⟩
      unfold sineV
      rw [if_pos HB1.out]
      exact FR_neg64 hq

theorem spec_sine_110 (x : Nat) (n : Int) (hn : floatToIntVal .f64 x .i64 = some n) (hfin : cmp .f64 (bin .sub .f64 (val .f64 x) (val .f64 x)) (some 0) = some .eq) (hhi : (FloatKind.f64.format.order x 4841369599423283200 == some .gt || FloatKind.f64.format.order x 4841369599423283200 == some .eq) = false) (hlo : (FloatKind.f64.format.order x 14064741636278059008 == some .lt || FloatKind.f64.format.order x 14064741636278059008 == some .eq) = false) (F : Option Nat) (hF : fracV (val .f64 x) n = F) (b1 : geqV F (some HALF) = true) (b2 : gtV (fold1 F) (some QUARTER) = false) (b0 : ltV (bin .sub .f64 (val .f64 x) (some (floatOfInt .f64 n))) (some 0) = true) (w : World) :
    Calls Try.prog 115 #[.float .f64 x] w fun e w' => ∃ r, e = .returned (.float .f64 r) ∧ FR .f64 r (sineV F) ∧ ∃ n, w' = w.drewN n := by
  have hc : ∀ w, (convert 56 2 (.float .f64 x)).run Try.prog w = .ok (.int .i64 n) w := fun w => run_convert_float_int w 56 2 .f64 .i64 x n (by kernel_rfl) (by kernel_rfl) hn
  have HFIN : Hid (cmp .f64 (bin .sub .f64 (val .f64 x) (val .f64 x)) (some 0) = some .eq) := hfin
  have HB0 : Hid (ltV (bin .sub .f64 (val .f64 x) (some (floatOfInt .f64 n))) (some 0) = true) := b0
  have HF0 : Hid (fracV (val .f64 x) n = bin .add .f64 (bin .sub .f64 (val .f64 x) (some (floatOfInt .f64 n))) (some ONE)) := by unfold Hid fracV; dsimp only; rw [b0]; rfl
  have hF1 : fold1 F = (bin .sub .f64 F (some HALF)) := by unfold fold1; rw [b1]; rfl
  have hF2 : fold2 (fold1 F) = (bin .sub .f64 F (some HALF)) := by unfold fold2; rw [b2, hF1]; rfl
  have b2' := b2
  rw [hF1] at b2'
  have HF : Hid (fracV (val .f64 x) n = F) := hF
  have HB1 : Hid (geqV F (some HALF) = true) := b1
  have HB2 : Hid (gtV (bin .sub .f64 F (some HALF)) (some QUARTER) = false) := b2'
  have HF2 : Hid (fold2 (fold1 F) = (bin .sub .f64 F (some HALF))) := hF2
  clear hF b1 b2 b2' hF1 hF2 b0 hfin hn
  go_enter Try.func115, Try.ntmps115
  go_wp2_with (first | ((refine wpList_fbin (o := ⟨some 11, _, _, _, _, _⟩) rfl _ _ _ _ _ rfl (by decide) _ _ _ rfl rfl ?_; intro y ny hy); have ty : (FloatKind.f64.format.order y 0 != some .eq) = false := (by rw [order_cmp, hy.val, vZERO, HFIN.out]; rfl)) | ((refine wpList_fbin (o := ⟨some 24, _, _, _, _, _⟩) rfl _ _ _ _ _ rfl (by decide) _ _ _ rfl rfl ?_; intro f nf hf; rw [val_ofInt] at hf); have t0 : (FloatKind.f64.format.order f 0 == some .lt) = true := (by rw [order_cmp, hf.val, vZERO]; exact HB0.out)) | ((refine wpList_fbin (o := ⟨some 28, _, _, _, _, _⟩) rfl _ _ _ _ _ rfl (by decide) _ _ _ rfl rfl ?_; intro e ne he; rw [hf.val, vONE, ← HF0.out, HF.out] at he); have t1 : (FloatKind.f64.format.order e 4602678819172646912 == some .gt || FloatKind.f64.format.order e 4602678819172646912 == some .eq) = true := (by rw [order_cmp, he.val, vHALF]; exact HB1.out)) | ((refine wpList_fbin (o := ⟨some 33, _, _, _, _, _⟩) rfl _ _ _ _ _ rfl (by decide) _ _ _ rfl rfl ?_; intro g ng hg; rw [he.val, vHALF] at hg); have t2 : (FloatKind.f64.format.order g 4598175219545276416 == some .gt) = false := (by rw [order_cmp, hg.val, vQUARTER]; exact HB2.out)) | (refine wpList_fbin (o := ⟨some 39, _, _, _, _, _⟩) rfl _ _ _ _ _ rfl (by decide) _ _ _ rfl rfl ?_; intro z nz hz; rw [hg.val, vTURN, ← HF2.out] at hz) | (refine wpList_fbin (o := ⟨some 42, _, _, _, _, _⟩) rfl _ _ _ _ _ rfl (by decide) _ _ _ rfl rfl ?_; intro u nu hu; rw [hz.val] at hu) | fail)
  go_loopw [7, 8] (fun p k wr => ∃ i : Nat, i ≤ 8 ∧ ∃ pb : Nat, p = .float .f64 pb ∧ k = .int .i64 (8 - (i : Int)) ∧ FR .f64 pb (sinP (bin .mul .f64 (sinZ F) (sinZ F)) i) ∧ ∃ n, wr = w.drewN n) (fun _ k _ => (intOf k).toNat)
  case atStart => exact ⟨0, by omega, _, rfl, rfl, ⟨by decide, vONE⟩, _, rfl⟩
  case round =>
    obtain ⟨i, hi, pb, rfl, rfl, hp, nw, rfl⟩ := hrel
    by_cases hlt : i < 8
    · have hb1 : (1 : Int) ≤ 8 - (i : Int) := by omega
      have hb8 : (8 : Int) - (i : Int) ≤ 8 := by omega
      go_wp2_with (first | (refine wpList_fbin (o := ⟨some 49, _, _, _, _, _⟩) rfl _ _ _ _ _ rfl (by decide) _ _ _ rfl rfl ?_; intro m nm hm; rw [hu.val, hp.val] at hm) | (refine wpList_fbin (o := ⟨some 57, _, _, _, _, _⟩) rfl _ _ _ _ _ rfl (by decide) _ _ _ rfl rfl ?_; intro q nq hq; rw [hm.val, val_ofInt, sin_wrap i hlt] at hq) | (refine wpList_fbin (o := ⟨some 58, _, _, _, _, _⟩) rfl _ _ _ _ _ rfl (by decide) _ _ _ rfl rfl ?_; intro r nr hr; rw [vONE, hq.val] at hr) | fail)
      go_roundw
      case rel => exact ⟨i + 1, by omega, _, rfl, by congr 1; omega, hr, _, rfl⟩
      case measure => simp [intOf]; omega
    · obtain rfl : i = 8 := by omega
      go_wp2_with (first | (refine wpList_fbin (o := ⟨some 62, _, _, _, _, _⟩) rfl _ _ _ _ _ rfl (by decide) _ _ _ rfl rfl ?_; intro q nq hq; rw [hz.val, hp.val] at hq) | fail)
      go_ret
      refine ⟨_, rfl, ?_, _, rfl⟩
      unfold sineV
      rw [if_pos HB1.out]
      exact FR_neg64 hq

theorem spec_sine_101 (x : Nat) (n : Int) (hn : floatToIntVal .f64 x .i64 = some n) (hfin : cmp .f64 (bin .sub .f64 (val .f64 x) (val .f64 x)) (some 0) = some .eq) (hhi : (FloatKind.f64.format.order x 4841369599423283200 == some .gt || FloatKind.f64.format.order x 4841369599423283200 == some .eq) = false) (hlo : (FloatKind.f64.format.order x 14064741636278059008 == some .lt || FloatKind.f64.format.order x 14064741636278059008 == some .eq) = false) (F : Option Nat) (hF : fracV (val .f64 x) n = F) (b1 : geqV F (some HALF) = false) (b2 : gtV (fold1 F) (some QUARTER) = true) (b0 : ltV (bin .sub .f64 (val .f64 x) (some (floatOfInt .f64 n))) (some 0) = true) (w : World) :
    Calls Try.prog 115 #[.float .f64 x] w fun e w' => ∃ r, e = .returned (.float .f64 r) ∧ FR .f64 r (sineV F) ∧ ∃ n, w' = w.drewN n := by
  have hc : ∀ w, (convert 56 2 (.float .f64 x)).run Try.prog w = .ok (.int .i64 n) w := fun w => run_convert_float_int w 56 2 .f64 .i64 x n (by kernel_rfl) (by kernel_rfl) hn
  have HFIN : Hid (cmp .f64 (bin .sub .f64 (val .f64 x) (val .f64 x)) (some 0) = some .eq) := hfin
  have HB0 : Hid (ltV (bin .sub .f64 (val .f64 x) (some (floatOfInt .f64 n))) (some 0) = true) := b0
  have HF0 : Hid (fracV (val .f64 x) n = bin .add .f64 (bin .sub .f64 (val .f64 x) (some (floatOfInt .f64 n))) (some ONE)) := by unfold Hid fracV; dsimp only; rw [b0]; rfl
  have hF1 : fold1 F = F := by unfold fold1; rw [b1]; rfl
  have hF2 : fold2 (fold1 F) = (bin .sub .f64 (some HALF) F) := by unfold fold2; rw [b2, hF1]; rfl
  have b2' := b2
  rw [hF1] at b2'
  have HF : Hid (fracV (val .f64 x) n = F) := hF
  have HB1 : Hid (geqV F (some HALF) = false) := b1
  have HB2 : Hid (gtV F (some QUARTER) = true) := b2'
  have HF2 : Hid (fold2 (fold1 F) = (bin .sub .f64 (some HALF) F)) := hF2
  clear hF b1 b2 b2' hF1 hF2 b0 hfin hn
  go_enter Try.func115, Try.ntmps115
  go_wp2_with (first | ((refine wpList_fbin (o := ⟨some 11, _, _, _, _, _⟩) rfl _ _ _ _ _ rfl (by decide) _ _ _ rfl rfl ?_; intro y ny hy); have ty : (FloatKind.f64.format.order y 0 != some .eq) = false := (by rw [order_cmp, hy.val, vZERO, HFIN.out]; rfl)) | ((refine wpList_fbin (o := ⟨some 24, _, _, _, _, _⟩) rfl _ _ _ _ _ rfl (by decide) _ _ _ rfl rfl ?_; intro f nf hf; rw [val_ofInt] at hf); have t0 : (FloatKind.f64.format.order f 0 == some .lt) = true := (by rw [order_cmp, hf.val, vZERO]; exact HB0.out)) | ((refine wpList_fbin (o := ⟨some 28, _, _, _, _, _⟩) rfl _ _ _ _ _ rfl (by decide) _ _ _ rfl rfl ?_; intro e ne he; rw [hf.val, vONE, ← HF0.out, HF.out] at he); have t1 : (FloatKind.f64.format.order e 4602678819172646912 == some .gt || FloatKind.f64.format.order e 4602678819172646912 == some .eq) = false := (by rw [order_cmp, he.val, vHALF]; exact HB1.out); have t2 : (FloatKind.f64.format.order e 4598175219545276416 == some .gt) = true := (by rw [order_cmp, he.val, vQUARTER]; exact HB2.out)) | (refine wpList_fbin (o := ⟨some 37, _, _, _, _, _⟩) rfl _ _ _ _ _ rfl (by decide) _ _ _ rfl rfl ?_; intro k nk hk; rw [he.val, vHALF] at hk) | (refine wpList_fbin (o := ⟨some 39, _, _, _, _, _⟩) rfl _ _ _ _ _ rfl (by decide) _ _ _ rfl rfl ?_; intro z nz hz; rw [hk.val, vTURN, ← HF2.out] at hz) | (refine wpList_fbin (o := ⟨some 42, _, _, _, _, _⟩) rfl _ _ _ _ _ rfl (by decide) _ _ _ rfl rfl ?_; intro u nu hu; rw [hz.val] at hu) | fail)
  go_loopw [7, 8] (fun p k wr => ∃ i : Nat, i ≤ 8 ∧ ∃ pb : Nat, p = .float .f64 pb ∧ k = .int .i64 (8 - (i : Int)) ∧ FR .f64 pb (sinP (bin .mul .f64 (sinZ F) (sinZ F)) i) ∧ ∃ n, wr = w.drewN n) (fun _ k _ => (intOf k).toNat)
  case atStart => exact ⟨0, by omega, _, rfl, rfl, ⟨by decide, vONE⟩, _, rfl⟩
  case round =>
    obtain ⟨i, hi, pb, rfl, rfl, hp, nw, rfl⟩ := hrel
    by_cases hlt : i < 8
    · have hb1 : (1 : Int) ≤ 8 - (i : Int) := by omega
      have hb8 : (8 : Int) - (i : Int) ≤ 8 := by omega
      go_wp2_with (first | (refine wpList_fbin (o := ⟨some 49, _, _, _, _, _⟩) rfl _ _ _ _ _ rfl (by decide) _ _ _ rfl rfl ?_; intro m nm hm; rw [hu.val, hp.val] at hm) | (refine wpList_fbin (o := ⟨some 57, _, _, _, _, _⟩) rfl _ _ _ _ _ rfl (by decide) _ _ _ rfl rfl ?_; intro q nq hq; rw [hm.val, val_ofInt, sin_wrap i hlt] at hq) | (refine wpList_fbin (o := ⟨some 58, _, _, _, _, _⟩) rfl _ _ _ _ _ rfl (by decide) _ _ _ rfl rfl ?_; intro r nr hr; rw [vONE, hq.val] at hr) | fail)
      go_roundw
      case rel => exact ⟨i + 1, by omega, _, rfl, by congr 1; omega, hr, _, rfl⟩
      case measure => simp [intOf]; omega
    · obtain rfl : i = 8 := by omega
      go_wp2_with (first | (refine wpList_fbin (o := ⟨some 66, _, _, _, _, _⟩) rfl _ _ _ _ _ rfl (by decide) _ _ _ rfl rfl ?_; intro q nq hq; rw [hz.val, hp.val] at hq) | fail)
      go_ret
      refine ⟨_, rfl, ?_, _, rfl⟩
      unfold sineV
      rw [if_neg (by rw [HB1.out]; decide)]
      exact hq

theorem spec_sine_100 (x : Nat) (n : Int) (hn : floatToIntVal .f64 x .i64 = some n) (hfin : cmp .f64 (bin .sub .f64 (val .f64 x) (val .f64 x)) (some 0) = some .eq) (hhi : (FloatKind.f64.format.order x 4841369599423283200 == some .gt || FloatKind.f64.format.order x 4841369599423283200 == some .eq) = false) (hlo : (FloatKind.f64.format.order x 14064741636278059008 == some .lt || FloatKind.f64.format.order x 14064741636278059008 == some .eq) = false) (F : Option Nat) (hF : fracV (val .f64 x) n = F) (b1 : geqV F (some HALF) = false) (b2 : gtV (fold1 F) (some QUARTER) = false) (b0 : ltV (bin .sub .f64 (val .f64 x) (some (floatOfInt .f64 n))) (some 0) = true) (w : World) :
    Calls Try.prog 115 #[.float .f64 x] w fun e w' => ∃ r, e = .returned (.float .f64 r) ∧ FR .f64 r (sineV F) ∧ ∃ n, w' = w.drewN n := by
  have hc : ∀ w, (convert 56 2 (.float .f64 x)).run Try.prog w = .ok (.int .i64 n) w := fun w => run_convert_float_int w 56 2 .f64 .i64 x n (by kernel_rfl) (by kernel_rfl) hn
  have HFIN : Hid (cmp .f64 (bin .sub .f64 (val .f64 x) (val .f64 x)) (some 0) = some .eq) := hfin
  have HB0 : Hid (ltV (bin .sub .f64 (val .f64 x) (some (floatOfInt .f64 n))) (some 0) = true) := b0
  have HF0 : Hid (fracV (val .f64 x) n = bin .add .f64 (bin .sub .f64 (val .f64 x) (some (floatOfInt .f64 n))) (some ONE)) := by unfold Hid fracV; dsimp only; rw [b0]; rfl
  have hF1 : fold1 F = F := by unfold fold1; rw [b1]; rfl
  have hF2 : fold2 (fold1 F) = F := by unfold fold2; rw [b2, hF1]; rfl
  have b2' := b2
  rw [hF1] at b2'
  have HF : Hid (fracV (val .f64 x) n = F) := hF
  have HB1 : Hid (geqV F (some HALF) = false) := b1
  have HB2 : Hid (gtV F (some QUARTER) = false) := b2'
  have HF2 : Hid (fold2 (fold1 F) = F) := hF2
  clear hF b1 b2 b2' hF1 hF2 b0 hfin hn
  go_enter Try.func115, Try.ntmps115
  go_wp2_with (first | ((refine wpList_fbin (o := ⟨some 11, _, _, _, _, _⟩) rfl _ _ _ _ _ rfl (by decide) _ _ _ rfl rfl ?_; intro y ny hy); have ty : (FloatKind.f64.format.order y 0 != some .eq) = false := (by rw [order_cmp, hy.val, vZERO, HFIN.out]; rfl)) | ((refine wpList_fbin (o := ⟨some 24, _, _, _, _, _⟩) rfl _ _ _ _ _ rfl (by decide) _ _ _ rfl rfl ?_; intro f nf hf; rw [val_ofInt] at hf); have t0 : (FloatKind.f64.format.order f 0 == some .lt) = true := (by rw [order_cmp, hf.val, vZERO]; exact HB0.out)) | ((refine wpList_fbin (o := ⟨some 28, _, _, _, _, _⟩) rfl _ _ _ _ _ rfl (by decide) _ _ _ rfl rfl ?_; intro e ne he; rw [hf.val, vONE, ← HF0.out, HF.out] at he); have t1 : (FloatKind.f64.format.order e 4602678819172646912 == some .gt || FloatKind.f64.format.order e 4602678819172646912 == some .eq) = false := (by rw [order_cmp, he.val, vHALF]; exact HB1.out); have t2 : (FloatKind.f64.format.order e 4598175219545276416 == some .gt) = false := (by rw [order_cmp, he.val, vQUARTER]; exact HB2.out)) | (refine wpList_fbin (o := ⟨some 39, _, _, _, _, _⟩) rfl _ _ _ _ _ rfl (by decide) _ _ _ rfl rfl ?_; intro z nz hz; rw [he.val, vTURN, ← HF2.out] at hz) | (refine wpList_fbin (o := ⟨some 42, _, _, _, _, _⟩) rfl _ _ _ _ _ rfl (by decide) _ _ _ rfl rfl ?_; intro u nu hu; rw [hz.val] at hu) | fail)
  go_loopw [7, 8] (fun p k wr => ∃ i : Nat, i ≤ 8 ∧ ∃ pb : Nat, p = .float .f64 pb ∧ k = .int .i64 (8 - (i : Int)) ∧ FR .f64 pb (sinP (bin .mul .f64 (sinZ F) (sinZ F)) i) ∧ ∃ n, wr = w.drewN n) (fun _ k _ => (intOf k).toNat)
  case atStart => exact ⟨0, by omega, _, rfl, rfl, ⟨by decide, vONE⟩, _, rfl⟩
  case round =>
    obtain ⟨i, hi, pb, rfl, rfl, hp, nw, rfl⟩ := hrel
    by_cases hlt : i < 8
    · have hb1 : (1 : Int) ≤ 8 - (i : Int) := by omega
      have hb8 : (8 : Int) - (i : Int) ≤ 8 := by omega
      go_wp2_with (first | (refine wpList_fbin (o := ⟨some 49, _, _, _, _, _⟩) rfl _ _ _ _ _ rfl (by decide) _ _ _ rfl rfl ?_; intro m nm hm; rw [hu.val, hp.val] at hm) | (refine wpList_fbin (o := ⟨some 57, _, _, _, _, _⟩) rfl _ _ _ _ _ rfl (by decide) _ _ _ rfl rfl ?_; intro q nq hq; rw [hm.val, val_ofInt, sin_wrap i hlt] at hq) | (refine wpList_fbin (o := ⟨some 58, _, _, _, _, _⟩) rfl _ _ _ _ _ rfl (by decide) _ _ _ rfl rfl ?_; intro r nr hr; rw [vONE, hq.val] at hr) | fail)
      go_roundw
      case rel => exact ⟨i + 1, by omega, _, rfl, by congr 1; omega, hr, _, rfl⟩
      case measure => simp [intOf]; omega
    · obtain rfl : i = 8 := by omega
      go_wp2_with (first | (refine wpList_fbin (o := ⟨some 66, _, _, _, _, _⟩) rfl _ _ _ _ _ rfl (by decide) _ _ _ rfl rfl ?_; intro q nq hq; rw [hz.val, hp.val] at hq) | fail)
      go_ret
      refine ⟨_, rfl, ?_, _, rfl⟩
      unfold sineV
      rw [if_neg (by rw [HB1.out]; decide)]
      exact hq

theorem spec_sine_011 (x : Nat) (n : Int) (hn : floatToIntVal .f64 x .i64 = some n) (hfin : cmp .f64 (bin .sub .f64 (val .f64 x) (val .f64 x)) (some 0) = some .eq) (hhi : (FloatKind.f64.format.order x 4841369599423283200 == some .gt || FloatKind.f64.format.order x 4841369599423283200 == some .eq) = false) (hlo : (FloatKind.f64.format.order x 14064741636278059008 == some .lt || FloatKind.f64.format.order x 14064741636278059008 == some .eq) = false) (F : Option Nat) (hF : fracV (val .f64 x) n = F) (b1 : geqV F (some HALF) = true) (b2 : gtV (fold1 F) (some QUARTER) = true) (b0 : ltV (bin .sub .f64 (val .f64 x) (some (floatOfInt .f64 n))) (some 0) = false) (w : World) :
    Calls Try.prog 115 #[.float .f64 x] w fun e w' => ∃ r, e = .returned (.float .f64 r) ∧ FR .f64 r (sineV F) ∧ ∃ n, w' = w.drewN n := by
  have hc : ∀ w, (convert 56 2 (.float .f64 x)).run Try.prog w = .ok (.int .i64 n) w := fun w => run_convert_float_int w 56 2 .f64 .i64 x n (by kernel_rfl) (by kernel_rfl) hn
  have HFIN : Hid (cmp .f64 (bin .sub .f64 (val .f64 x) (val .f64 x)) (some 0) = some .eq) := hfin
  have HB0 : Hid (ltV (bin .sub .f64 (val .f64 x) (some (floatOfInt .f64 n))) (some 0) = false) := b0
  have HF0 : Hid (fracV (val .f64 x) n = bin .sub .f64 (val .f64 x) (some (floatOfInt .f64 n))) := by unfold Hid fracV; dsimp only; rw [b0]; rfl
  have hF1 : fold1 F = (bin .sub .f64 F (some HALF)) := by unfold fold1; rw [b1]; rfl
  have hF2 : fold2 (fold1 F) = (bin .sub .f64 (some HALF) (bin .sub .f64 F (some HALF))) := by unfold fold2; rw [b2, hF1]; rfl
  have b2' := b2
  rw [hF1] at b2'
  have HF : Hid (fracV (val .f64 x) n = F) := hF
  have HB1 : Hid (geqV F (some HALF) = true) := b1
  have HB2 : Hid (gtV (bin .sub .f64 F (some HALF)) (some QUARTER) = true) := b2'
  have HF2 : Hid (fold2 (fold1 F) = (bin .sub .f64 (some HALF) (bin .sub .f64 F (some HALF)))) := hF2
  clear hF b1 b2 b2' hF1 hF2 b0 hfin hn
  go_enter Try.func115, Try.ntmps115
  go_wp2_with (first | ((refine wpList_fbin (o := ⟨some 11, _, _, _, _, _⟩) rfl _ _ _ _ _ rfl (by decide) _ _ _ rfl rfl ?_; intro y ny hy); have ty : (FloatKind.f64.format.order y 0 != some .eq) = false := (by rw [order_cmp, hy.val, vZERO, HFIN.out]; rfl)) | ((refine wpList_fbin (o := ⟨some 24, _, _, _, _, _⟩) rfl _ _ _ _ _ rfl (by decide) _ _ _ rfl rfl ?_; intro f nf hf; rw [val_ofInt] at hf); have t0 : (FloatKind.f64.format.order f 0 == some .lt) = false := (by rw [order_cmp, hf.val, vZERO]; exact HB0.out); rw [← HF0.out, HF.out] at hf; have t1 : (FloatKind.f64.format.order f 4602678819172646912 == some .gt || FloatKind.f64.format.order f 4602678819172646912 == some .eq) = true := (by rw [order_cmp, hf.val, vHALF]; exact HB1.out)) | ((refine wpList_fbin (o := ⟨some 33, _, _, _, _, _⟩) rfl _ _ _ _ _ rfl (by decide) _ _ _ rfl rfl ?_; intro g ng hg; rw [hf.val, vHALF] at hg); have t2 : (FloatKind.f64.format.order g 4598175219545276416 == some .gt) = true := (by rw [order_cmp, hg.val, vQUARTER]; exact HB2.out)) | (refine wpList_fbin (o := ⟨some 37, _, _, _, _, _⟩) rfl _ _ _ _ _ rfl (by decide) _ _ _ rfl rfl ?_; intro k nk hk; rw [hg.val, vHALF] at hk) | (refine wpList_fbin (o := ⟨some 39, _, _, _, _, _⟩) rfl _ _ _ _ _ rfl (by decide) _ _ _ rfl rfl ?_; intro z nz hz; rw [hk.val, vTURN, ← HF2.out] at hz) | (refine wpList_fbin (o := ⟨some 42, _, _, _, _, _⟩) rfl _ _ _ _ _ rfl (by decide) _ _ _ rfl rfl ?_; intro u nu hu; rw [hz.val] at hu) | fail)
  go_loopw [7, 8] (fun p k wr => ∃ i : Nat, i ≤ 8 ∧ ∃ pb : Nat, p = .float .f64 pb ∧ k = .int .i64 (8 - (i : Int)) ∧ FR .f64 pb (sinP (bin .mul .f64 (sinZ F) (sinZ F)) i) ∧ ∃ n, wr = w.drewN n) (fun _ k _ => (intOf k).toNat)
  case atStart => exact ⟨0, by omega, _, rfl, rfl, ⟨by decide, vONE⟩, _, rfl⟩
  case round =>
    obtain ⟨i, hi, pb, rfl, rfl, hp, nw, rfl⟩ := hrel
    by_cases hlt : i < 8
    · have hb1 : (1 : Int) ≤ 8 - (i : Int) := by omega
      have hb8 : (8 : Int) - (i : Int) ≤ 8 := by omega
      go_wp2_with (first | (refine wpList_fbin (o := ⟨some 49, _, _, _, _, _⟩) rfl _ _ _ _ _ rfl (by decide) _ _ _ rfl rfl ?_; intro m nm hm; rw [hu.val, hp.val] at hm) | (refine wpList_fbin (o := ⟨some 57, _, _, _, _, _⟩) rfl _ _ _ _ _ rfl (by decide) _ _ _ rfl rfl ?_; intro q nq hq; rw [hm.val, val_ofInt, sin_wrap i hlt] at hq) | (refine wpList_fbin (o := ⟨some 58, _, _, _, _, _⟩) rfl _ _ _ _ _ rfl (by decide) _ _ _ rfl rfl ?_; intro r nr hr; rw [vONE, hq.val] at hr) | fail)
      go_roundw
      case rel => exact ⟨i + 1, by omega, _, rfl, by congr 1; omega, hr, _, rfl⟩
      case measure => simp [intOf]; omega
    · obtain rfl : i = 8 := by omega
      go_wp2_with (first | (refine wpList_fbin (o := ⟨some 62, _, _, _, _, _⟩) rfl _ _ _ _ _ rfl (by decide) _ _ _ rfl rfl ?_; intro q nq hq; rw [hz.val, hp.val] at hq) | fail)
      go_ret
      refine ⟨_, rfl, ?_, _, rfl⟩
      unfold sineV
      rw [if_pos HB1.out]
      exact FR_neg64 hq

theorem spec_sine_010 (x : Nat) (n : Int) (hn : floatToIntVal .f64 x .i64 = some n) (hfin : cmp .f64 (bin .sub .f64 (val .f64 x) (val .f64 x)) (some 0) = some .eq) (hhi : (FloatKind.f64.format.order x 4841369599423283200 == some .gt || FloatKind.f64.format.order x 4841369599423283200 == some .eq) = false) (hlo : (FloatKind.f64.format.order x 14064741636278059008 == some .lt || FloatKind.f64.format.order x 14064741636278059008 == some .eq) = false) (F : Option Nat) (hF : fracV (val .f64 x) n = F) (b1 : geqV F (some HALF) = true) (b2 : gtV (fold1 F) (some QUARTER) = false) (b0 : ltV (bin .sub .f64 (val .f64 x) (some (floatOfInt .f64 n))) (some 0) = false) (w : World) :
    Calls Try.prog 115 #[.float .f64 x] w fun e w' => ∃ r, e = .returned (.float .f64 r) ∧ FR .f64 r (sineV F) ∧ ∃ n, w' = w.drewN n := by
  have hc : ∀ w, (convert 56 2 (.float .f64 x)).run Try.prog w = .ok (.int .i64 n) w := fun w => run_convert_float_int w 56 2 .f64 .i64 x n (by kernel_rfl) (by kernel_rfl) hn
  have HFIN : Hid (cmp .f64 (bin .sub .f64 (val .f64 x) (val .f64 x)) (some 0) = some .eq) := hfin
  have HB0 : Hid (ltV (bin .sub .f64 (val .f64 x) (some (floatOfInt .f64 n))) (some 0) = false) := b0
  have HF0 : Hid (fracV (val .f64 x) n = bin .sub .f64 (val .f64 x) (some (floatOfInt .f64 n))) := by unfold Hid fracV; dsimp only; rw [b0]; rfl
  have hF1 : fold1 F = (bin .sub .f64 F (some HALF)) := by unfold fold1; rw [b1]; rfl
  have hF2 : fold2 (fold1 F) = (bin .sub .f64 F (some HALF)) := by unfold fold2; rw [b2, hF1]; rfl
  have b2' := b2
  rw [hF1] at b2'
  have HF : Hid (fracV (val .f64 x) n = F) := hF
  have HB1 : Hid (geqV F (some HALF) = true) := b1
  have HB2 : Hid (gtV (bin .sub .f64 F (some HALF)) (some QUARTER) = false) := b2'
  have HF2 : Hid (fold2 (fold1 F) = (bin .sub .f64 F (some HALF))) := hF2
  clear hF b1 b2 b2' hF1 hF2 b0 hfin hn
  go_enter Try.func115, Try.ntmps115
  go_wp2_with (first | ((refine wpList_fbin (o := ⟨some 11, _, _, _, _, _⟩) rfl _ _ _ _ _ rfl (by decide) _ _ _ rfl rfl ?_; intro y ny hy); have ty : (FloatKind.f64.format.order y 0 != some .eq) = false := (by rw [order_cmp, hy.val, vZERO, HFIN.out]; rfl)) | ((refine wpList_fbin (o := ⟨some 24, _, _, _, _, _⟩) rfl _ _ _ _ _ rfl (by decide) _ _ _ rfl rfl ?_; intro f nf hf; rw [val_ofInt] at hf); have t0 : (FloatKind.f64.format.order f 0 == some .lt) = false := (by rw [order_cmp, hf.val, vZERO]; exact HB0.out); rw [← HF0.out, HF.out] at hf; have t1 : (FloatKind.f64.format.order f 4602678819172646912 == some .gt || FloatKind.f64.format.order f 4602678819172646912 == some .eq) = true := (by rw [order_cmp, hf.val, vHALF]; exact HB1.out)) | ((refine wpList_fbin (o := ⟨some 33, _, _, _, _, _⟩) rfl _ _ _ _ _ rfl (by decide) _ _ _ rfl rfl ?_; intro g ng hg; rw [hf.val, vHALF] at hg); have t2 : (FloatKind.f64.format.order g 4598175219545276416 == some .gt) = false := (by rw [order_cmp, hg.val, vQUARTER]; exact HB2.out)) | (refine wpList_fbin (o := ⟨some 39, _, _, _, _, _⟩) rfl _ _ _ _ _ rfl (by decide) _ _ _ rfl rfl ?_; intro z nz hz; rw [hg.val, vTURN, ← HF2.out] at hz) | (refine wpList_fbin (o := ⟨some 42, _, _, _, _, _⟩) rfl _ _ _ _ _ rfl (by decide) _ _ _ rfl rfl ?_; intro u nu hu; rw [hz.val] at hu) | fail)
  go_loopw [7, 8] (fun p k wr => ∃ i : Nat, i ≤ 8 ∧ ∃ pb : Nat, p = .float .f64 pb ∧ k = .int .i64 (8 - (i : Int)) ∧ FR .f64 pb (sinP (bin .mul .f64 (sinZ F) (sinZ F)) i) ∧ ∃ n, wr = w.drewN n) (fun _ k _ => (intOf k).toNat)
  case atStart => exact ⟨0, by omega, _, rfl, rfl, ⟨by decide, vONE⟩, _, rfl⟩
  case round =>
    obtain ⟨i, hi, pb, rfl, rfl, hp, nw, rfl⟩ := hrel
    by_cases hlt : i < 8
    · have hb1 : (1 : Int) ≤ 8 - (i : Int) := by omega
      have hb8 : (8 : Int) - (i : Int) ≤ 8 := by omega
      go_wp2_with (first | (refine wpList_fbin (o := ⟨some 49, _, _, _, _, _⟩) rfl _ _ _ _ _ rfl (by decide) _ _ _ rfl rfl ?_; intro m nm hm; rw [hu.val, hp.val] at hm) | (refine wpList_fbin (o := ⟨some 57, _, _, _, _, _⟩) rfl _ _ _ _ _ rfl (by decide) _ _ _ rfl rfl ?_; intro q nq hq; rw [hm.val, val_ofInt, sin_wrap i hlt] at hq) | (refine wpList_fbin (o := ⟨some 58, _, _, _, _, _⟩) rfl _ _ _ _ _ rfl (by decide) _ _ _ rfl rfl ?_; intro r nr hr; rw [vONE, hq.val] at hr) | fail)
      go_roundw
      case rel => exact ⟨i + 1, by omega, _, rfl, by congr 1; omega, hr, _, rfl⟩
      case measure => simp [intOf]; omega
    · obtain rfl : i = 8 := by omega
      go_wp2_with (first | (refine wpList_fbin (o := ⟨some 62, _, _, _, _, _⟩) rfl _ _ _ _ _ rfl (by decide) _ _ _ rfl rfl ?_; intro q nq hq; rw [hz.val, hp.val] at hq) | fail)
      go_ret
      refine ⟨_, rfl, ?_, _, rfl⟩
      unfold sineV
      rw [if_pos HB1.out]
      exact FR_neg64 hq

theorem spec_sine_001 (x : Nat) (n : Int) (hn : floatToIntVal .f64 x .i64 = some n) (hfin : cmp .f64 (bin .sub .f64 (val .f64 x) (val .f64 x)) (some 0) = some .eq) (hhi : (FloatKind.f64.format.order x 4841369599423283200 == some .gt || FloatKind.f64.format.order x 4841369599423283200 == some .eq) = false) (hlo : (FloatKind.f64.format.order x 14064741636278059008 == some .lt || FloatKind.f64.format.order x 14064741636278059008 == some .eq) = false) (F : Option Nat) (hF : fracV (val .f64 x) n = F) (b1 : geqV F (some HALF) = false) (b2 : gtV (fold1 F) (some QUARTER) = true) (b0 : ltV (bin .sub .f64 (val .f64 x) (some (floatOfInt .f64 n))) (some 0) = false) (w : World) :
    Calls Try.prog 115 #[.float .f64 x] w fun e w' => ∃ r, e = .returned (.float .f64 r) ∧ FR .f64 r (sineV F) ∧ ∃ n, w' = w.drewN n := by
  have hc : ∀ w, (convert 56 2 (.float .f64 x)).run Try.prog w = .ok (.int .i64 n) w := fun w => run_convert_float_int w 56 2 .f64 .i64 x n (by kernel_rfl) (by kernel_rfl) hn
  have HFIN : Hid (cmp .f64 (bin .sub .f64 (val .f64 x) (val .f64 x)) (some 0) = some .eq) := hfin
  have HB0 : Hid (ltV (bin .sub .f64 (val .f64 x) (some (floatOfInt .f64 n))) (some 0) = false) := b0
  have HF0 : Hid (fracV (val .f64 x) n = bin .sub .f64 (val .f64 x) (some (floatOfInt .f64 n))) := by unfold Hid fracV; dsimp only; rw [b0]; rfl
  have hF1 : fold1 F = F := by unfold fold1; rw [b1]; rfl
  have hF2 : fold2 (fold1 F) = (bin .sub .f64 (some HALF) F) := by unfold fold2; rw [b2, hF1]; rfl
  have b2' := b2
  rw [hF1] at b2'
  have HF : Hid (fracV (val .f64 x) n = F) := hF
  have HB1 : Hid (geqV F (some HALF) = false) := b1
  have HB2 : Hid (gtV F (some QUARTER) = true) := b2'
  have HF2 : Hid (fold2 (fold1 F) = (bin .sub .f64 (some HALF) F)) := hF2
  clear hF b1 b2 b2' hF1 hF2 b0 hfin hn
  go_enter Try.func115, Try.ntmps115
  go_wp2_with (first | ((refine wpList_fbin (o := ⟨some 11, _, _, _, _, _⟩) rfl _ _ _ _ _ rfl (by decide) _ _ _ rfl rfl ?_; intro y ny hy); have ty : (FloatKind.f64.format.order y 0 != some .eq) = false := (by rw [order_cmp, hy.val, vZERO, HFIN.out]; rfl)) | ((refine wpList_fbin (o := ⟨some 24, _, _, _, _, _⟩) rfl _ _ _ _ _ rfl (by decide) _ _ _ rfl rfl ?_; intro f nf hf; rw [val_ofInt] at hf); have t0 : (FloatKind.f64.format.order f 0 == some .lt) = false := (by rw [order_cmp, hf.val, vZERO]; exact HB0.out); rw [← HF0.out, HF.out] at hf; have t1 : (FloatKind.f64.format.order f 4602678819172646912 == some .gt || FloatKind.f64.format.order f 4602678819172646912 == some .eq) = false := (by rw [order_cmp, hf.val, vHALF]; exact HB1.out); have t2 : (FloatKind.f64.format.order f 4598175219545276416 == some .gt) = true := (by rw [order_cmp, hf.val, vQUARTER]; exact HB2.out)) | (refine wpList_fbin (o := ⟨some 37, _, _, _, _, _⟩) rfl _ _ _ _ _ rfl (by decide) _ _ _ rfl rfl ?_; intro k nk hk; rw [hf.val, vHALF] at hk) | (refine wpList_fbin (o := ⟨some 39, _, _, _, _, _⟩) rfl _ _ _ _ _ rfl (by decide) _ _ _ rfl rfl ?_; intro z nz hz; rw [hk.val, vTURN, ← HF2.out] at hz) | (refine wpList_fbin (o := ⟨some 42, _, _, _, _, _⟩) rfl _ _ _ _ _ rfl (by decide) _ _ _ rfl rfl ?_; intro u nu hu; rw [hz.val] at hu) | fail)
  go_loopw [7, 8] (fun p k wr => ∃ i : Nat, i ≤ 8 ∧ ∃ pb : Nat, p = .float .f64 pb ∧ k = .int .i64 (8 - (i : Int)) ∧ FR .f64 pb (sinP (bin .mul .f64 (sinZ F) (sinZ F)) i) ∧ ∃ n, wr = w.drewN n) (fun _ k _ => (intOf k).toNat)
  case atStart => exact ⟨0, by omega, _, rfl, rfl, ⟨by decide, vONE⟩, _, rfl⟩
  case round =>
    obtain ⟨i, hi, pb, rfl, rfl, hp, nw, rfl⟩ := hrel
    by_cases hlt : i < 8
    · have hb1 : (1 : Int) ≤ 8 - (i : Int) := by omega
      have hb8 : (8 : Int) - (i : Int) ≤ 8 := by omega
      go_wp2_with (first | (refine wpList_fbin (o := ⟨some 49, _, _, _, _, _⟩) rfl _ _ _ _ _ rfl (by decide) _ _ _ rfl rfl ?_; intro m nm hm; rw [hu.val, hp.val] at hm) | (refine wpList_fbin (o := ⟨some 57, _, _, _, _, _⟩) rfl _ _ _ _ _ rfl (by decide) _ _ _ rfl rfl ?_; intro q nq hq; rw [hm.val, val_ofInt, sin_wrap i hlt] at hq) | (refine wpList_fbin (o := ⟨some 58, _, _, _, _, _⟩) rfl _ _ _ _ _ rfl (by decide) _ _ _ rfl rfl ?_; intro r nr hr; rw [vONE, hq.val] at hr) | fail)
      go_roundw
      case rel => exact ⟨i + 1, by omega, _, rfl, by congr 1; omega, hr, _, rfl⟩
      case measure => simp [intOf]; omega
    · obtain rfl : i = 8 := by omega
      go_wp2_with (first | (refine wpList_fbin (o := ⟨some 66, _, _, _, _, _⟩) rfl _ _ _ _ _ rfl (by decide) _ _ _ rfl rfl ?_; intro q nq hq; rw [hz.val, hp.val] at hq) | fail)
      go_ret
      refine ⟨_, rfl, ?_, _, rfl⟩
      unfold sineV
      rw [if_neg (by rw [HB1.out]; decide)]
      exact hq

theorem spec_sine_000 (x : Nat) (n : Int) (hn : floatToIntVal .f64 x .i64 = some n) (hfin : cmp .f64 (bin .sub .f64 (val .f64 x) (val .f64 x)) (some 0) = some .eq) (hhi : (FloatKind.f64.format.order x 4841369599423283200 == some .gt || FloatKind.f64.format.order x 4841369599423283200 == some .eq) = false) (hlo : (FloatKind.f64.format.order x 14064741636278059008 == some .lt || FloatKind.f64.format.order x 14064741636278059008 == some .eq) = false) (F : Option Nat) (hF : fracV (val .f64 x) n = F) (b1 : geqV F (some HALF) = false) (b2 : gtV (fold1 F) (some QUARTER) = false) (b0 : ltV (bin .sub .f64 (val .f64 x) (some (floatOfInt .f64 n))) (some 0) = false) (w : World) :
    Calls Try.prog 115 #[.float .f64 x] w fun e w' => ∃ r, e = .returned (.float .f64 r) ∧ FR .f64 r (sineV F) ∧ ∃ n, w' = w.drewN n := by
  have hc : ∀ w, (convert 56 2 (.float .f64 x)).run Try.prog w = .ok (.int .i64 n) w := fun w => run_convert_float_int w 56 2 .f64 .i64 x n (by kernel_rfl) (by kernel_rfl) hn
  have HFIN : Hid (cmp .f64 (bin .sub .f64 (val .f64 x) (val .f64 x)) (some 0) = some .eq) := hfin
  have HB0 : Hid (ltV (bin .sub .f64 (val .f64 x) (some (floatOfInt .f64 n))) (some 0) = false) := b0
  have HF0 : Hid (fracV (val .f64 x) n = bin .sub .f64 (val .f64 x) (some (floatOfInt .f64 n))) := by unfold Hid fracV; dsimp only; rw [b0]; rfl
  have hF1 : fold1 F = F := by unfold fold1; rw [b1]; rfl
  have hF2 : fold2 (fold1 F) = F := by unfold fold2; rw [b2, hF1]; rfl
  have b2' := b2
  rw [hF1] at b2'
  have HF : Hid (fracV (val .f64 x) n = F) := hF
  have HB1 : Hid (geqV F (some HALF) = false) := b1
  have HB2 : Hid (gtV F (some QUARTER) = false) := b2'
  have HF2 : Hid (fold2 (fold1 F) = F) := hF2
  clear hF b1 b2 b2' hF1 hF2 b0 hfin hn
  go_enter Try.func115, Try.ntmps115
  go_wp2_with (first | ((refine wpList_fbin (o := ⟨some 11, _, _, _, _, _⟩) rfl _ _ _ _ _ rfl (by decide) _ _ _ rfl rfl ?_; intro y ny hy); have ty : (FloatKind.f64.format.order y 0 != some .eq) = false := (by rw [order_cmp, hy.val, vZERO, HFIN.out]; rfl)) | ((refine wpList_fbin (o := ⟨some 24, _, _, _, _, _⟩) rfl _ _ _ _ _ rfl (by decide) _ _ _ rfl rfl ?_; intro f nf hf; rw [val_ofInt] at hf); have t0 : (FloatKind.f64.format.order f 0 == some .lt) = false := (by rw [order_cmp, hf.val, vZERO]; exact HB0.out); rw [← HF0.out, HF.out] at hf; have t1 : (FloatKind.f64.format.order f 4602678819172646912 == some .gt || FloatKind.f64.format.order f 4602678819172646912 == some .eq) = false := (by rw [order_cmp, hf.val, vHALF]; exact HB1.out); have t2 : (FloatKind.f64.format.order f 4598175219545276416 == some .gt) = false := (by rw [order_cmp, hf.val, vQUARTER]; exact HB2.out)) | (refine wpList_fbin (o := ⟨some 39, _, _, _, _, _⟩) rfl _ _ _ _ _ rfl (by decide) _ _ _ rfl rfl ?_; intro z nz hz; rw [hf.val, vTURN, ← HF2.out] at hz) | (refine wpList_fbin (o := ⟨some 42, _, _, _, _, _⟩) rfl _ _ _ _ _ rfl (by decide) _ _ _ rfl rfl ?_; intro u nu hu; rw [hz.val] at hu) | fail)
  go_loopw [7, 8] (fun p k wr => ∃ i : Nat, i ≤ 8 ∧ ∃ pb : Nat, p = .float .f64 pb ∧ k = .int .i64 (8 - (i : Int)) ∧ FR .f64 pb (sinP (bin .mul .f64 (sinZ F) (sinZ F)) i) ∧ ∃ n, wr = w.drewN n) (fun _ k _ => (intOf k).toNat)
  case atStart => exact ⟨0, by omega, _, rfl, rfl, ⟨by decide, vONE⟩, _, rfl⟩
  case round =>
    obtain ⟨i, hi, pb, rfl, rfl, hp, nw, rfl⟩ := hrel
    by_cases hlt : i < 8
    · have hb1 : (1 : Int) ≤ 8 - (i : Int) := by omega
      have hb8 : (8 : Int) - (i : Int) ≤ 8 := by omega
      go_wp2_with (first | (refine wpList_fbin (o := ⟨some 49, _, _, _, _, _⟩) rfl _ _ _ _ _ rfl (by decide) _ _ _ rfl rfl ?_; intro m nm hm; rw [hu.val, hp.val] at hm) | (refine wpList_fbin (o := ⟨some 57, _, _, _, _, _⟩) rfl _ _ _ _ _ rfl (by decide) _ _ _ rfl rfl ?_; intro q nq hq; rw [hm.val, val_ofInt, sin_wrap i hlt] at hq) | (refine wpList_fbin (o := ⟨some 58, _, _, _, _, _⟩) rfl _ _ _ _ _ rfl (by decide) _ _ _ rfl rfl ?_; intro r nr hr; rw [vONE, hq.val] at hr) | fail)
      go_roundw
      case rel => exact ⟨i + 1, by omega, _, rfl, by congr 1; omega, hr, _, rfl⟩
      case measure => simp [intOf]; omega
    · obtain rfl : i = 8 := by omega
      go_wp2_with (first | (refine wpList_fbin (o := ⟨some 66, _, _, _, _, _⟩) rfl _ _ _ _ _ rfl (by decide) _ _ _ rfl rfl ?_; intro q nq hq; rw [hz.val, hp.val] at hq) | fail)
      go_ret
      refine ⟨_, rfl, ?_, _, rfl⟩
      unfold sineV
      rw [if_neg (by rw [HB1.out]; decide)]
      exact hq

end Go.Proofs.Ytnibobbfepdeiaa
namespace Go.Proofs.Ytnibobbfepdeiaa
open Fl Ieee Go.RowKit
set_option linter.unusedVariables false

/-- x - x, of a finite number: a zero; of an infinity: no number. -/
theorem sub_self (k : FloatKind) {x : Nat} (h : rung k.format x < k.format.infRung) : cmp k (bin .sub k (some x) (some x)) (some 0) = some .eq := by
  obtain ⟨r, hr, hn⟩ := near_sub k h h
  have hz : rung k.format r = 0 := by
    have := hn.le (s := 0) (by rw [Int.sub_self]; simp)
    omega
  rw [hr]
  show k.format.order r 0 = _
  have hi : 0 < k.format.infRung := by cases k <;> decide
  have h0 : rung k.format 0 = 0 := by unfold rung; simp
  rw [order_key k (by omega) (by omega)]
  have e1 : key k.format r = 0 := by unfold key; rw [hz]; split <;> rfl
  have e2 : key k.format 0 = 0 := by unfold key; rw [h0]; split <;> rfl
  rw [e1, e2]; rfl

theorem sub_inf (k : FloatKind) {x : Nat} (h : rung k.format x = k.format.infRung) : bin .sub k (some x) (some x) = none := by
  show (((k.format.read x).sum (k.format.read x).opposite).map k.format.write) = none
  rw [read_inf k.format (binade_le k) h]
  show (Option.map _ (if sgn k.format x = (!sgn k.format x) then _ else _)) = _
  rw [if_neg (by cases sgn k.format x <;> decide)]; rfl

theorem isFin_some {x : Nat} (h : val .f32 x = some x) : isFin (val .f32 x) = decide (rung single x < single.infRung) := by
  have hnn := (nn_iff .f32 x).1 h
  rw [h]
  unfold isFin
  rcases Nat.lt_or_ge (rung single x) single.infRung with h' | h'
  · rw [sub_self .f32 h', decide_eq_true h']; rfl
  · have e : rung single x = single.infRung := by
      have : rung single x ≤ single.infRung := hnn
      omega
    rw [sub_inf .f32 e, decide_eq_false (by omega)]; rfl

/-- The whole part of a value. -/
def wholeV (X : Option Nat) : Int := match X with | some b => (floatToIntVal .f64 b .i64).getD 0 | none => 0

/-- Is a value below 2^52? -/
def belowV (X : Option Nat) : Bool := match X with | some b => decide (rung double b < 4841369599423283200) | none => false

/-- The sine of a number of turns. -/
def sineTurnsV (X : Option Nat) : Option Nat :=
  if isFin X then (if belowV (wid X) then nar (sineV (fracV (wid X) (wholeV (wid X)))) else some 0) else none

theorem small_frac {x : Nat} (h : rung double x < 4841369599423283200) : ∃ n : Int, floatToIntVal .f64 x .i64 = some n ∧ Bd (bin .sub .f64 (some x) (some (floatOfInt .f64 n))) ONE := by
  obtain ⟨n, hn, r, hr, hle⟩ := frac_le 1074 (by decide) (b := x) (Nat.lt_trans h (by decide)) (by
    have := (mg_lt_iff double).2 h
    have e : mg double 4841369599423283200 = 2 ^ 52 * 2 ^ 1074 := by decide +kernel
    rw [← e]; exact this) ONE (by decide +kernel)
  exact ⟨n, hn, r, hr, hle⟩

theorem nan_val : val .f64 9221120237041090561 = none := by rw [val64, if_neg (by decide)]

theorem math_NaN (w : World) : Calls Try.prog 93 #[] w fun e w' => e = .returned (.float .f64 9221120237041090561) ∧ w' = w := by
  go_enter Try.func93, Try.ntmps93
  go_wp2
  go_ret
  exact ⟨rfl, rfl⟩

theorem FR_wid {x r : Nat} (hv : val .f32 x = some x) (hr : FR .f64 r (wid (val .f32 x))) : val .f64 r = some r ∧ r = W x := by
  have e := wid_some hv hr
  refine ⟨?_, e⟩
  rw [hr.val, hv, e]; rfl

/-- The tests of the reference. -/
theorem hi_geq {r : Nat} (hv : val .f64 r = some r) : (FloatKind.f64.format.order r 4841369599423283200 == some .gt || FloatKind.f64.format.order r 4841369599423283200 == some .eq) = decide (sgn double r = false ∧ ¬ rung double r < 4841369599423283200) := by
  have hnn := (nn_iff .f64 r).1 hv
  have hkc : key double 4841369599423283200 = (4841369599423283200 : Int) := by decide
  rw [order_key .f64 hnn (by decide)]
  show (some (compare (key double r) (key double 4841369599423283200)) == some .gt || some (compare (key double r) (key double 4841369599423283200)) == some .eq) = _
  rw [hkc, Bool.eq_iff_iff]
  simp only [Bool.or_eq_true, beq_iff_eq, Option.some.injEq, Int.compare_eq_gt, Int.compare_eq_eq, decide_eq_true_eq]
  unfold key
  cases sgn double r <;> simp <;> omega

theorem lo_leq {r : Nat} (hv : val .f64 r = some r) : (FloatKind.f64.format.order r 14064741636278059008 == some .lt || FloatKind.f64.format.order r 14064741636278059008 == some .eq) = decide (sgn double r = true ∧ ¬ rung double r < 4841369599423283200) := by
  have hnn := (nn_iff .f64 r).1 hv
  have hkc : key double 14064741636278059008 = (-4841369599423283200 : Int) := by decide
  rw [order_key .f64 hnn (by decide)]
  show (some (compare (key double r) (key double 14064741636278059008)) == some .lt || some (compare (key double r) (key double 14064741636278059008)) == some .eq) = _
  rw [hkc, Bool.eq_iff_iff]
  simp only [Bool.or_eq_true, beq_iff_eq, Option.some.injEq, Int.compare_eq_lt, Int.compare_eq_eq, decide_eq_true_eq]
  unfold key
  cases sgn double r <;> simp <;> omega

theorem spec_sine (x : Nat) (n : Int) (hn : floatToIntVal .f64 x .i64 = some n) (hfin : cmp .f64 (bin .sub .f64 (val .f64 x) (val .f64 x)) (some 0) = some .eq) (hhi : (FloatKind.f64.format.order x 4841369599423283200 == some .gt || FloatKind.f64.format.order x 4841369599423283200 == some .eq) = false) (hlo : (FloatKind.f64.format.order x 14064741636278059008 == some .lt || FloatKind.f64.format.order x 14064741636278059008 == some .eq) = false) (w : World) :
    Calls Try.prog 115 #[.float .f64 x] w fun e w' => ∃ r, e = .returned (.float .f64 r) ∧ FR .f64 r (sineV (fracV (val .f64 x) n)) ∧ ∃ n, w' = w.drewN n := by
  cases b0 : ltV (bin .sub .f64 (val .f64 x) (some (floatOfInt .f64 n))) (some 0) <;> cases b1 : geqV (fracV (val .f64 x) n) (some HALF) <;> cases b2 : gtV (fold1 (fracV (val .f64 x) n)) (some QUARTER)
  · exact spec_sine_000 x n hn hfin hhi hlo _ rfl b1 b2 b0 w
  · exact spec_sine_001 x n hn hfin hhi hlo _ rfl b1 b2 b0 w
  · exact spec_sine_010 x n hn hfin hhi hlo _ rfl b1 b2 b0 w
  · exact spec_sine_011 x n hn hfin hhi hlo _ rfl b1 b2 b0 w
  · exact spec_sine_100 x n hn hfin hhi hlo _ rfl b1 b2 b0 w
  · exact spec_sine_101 x n hn hfin hhi hlo _ rfl b1 b2 b0 w
  · exact spec_sine_110 x n hn hfin hhi hlo _ rfl b1 b2 b0 w
  · exact spec_sine_111 x n hn hfin hhi hlo _ rfl b1 b2 b0 w

theorem spec_sine_nan (x : Nat) (hfin : (cmp .f64 (bin .sub .f64 (val .f64 x) (val .f64 x)) (some 0) != some .eq) = true) (w : World) :
    Calls Try.prog 115 #[.float .f64 x] w fun e w' => ∃ r, e = .returned (.float .f64 r) ∧ FR .f64 r none ∧ ∃ n, w' = w.drewN n := by
  have HFIN : Hid ((cmp .f64 (bin .sub .f64 (val .f64 x) (val .f64 x)) (some 0) != some .eq) = true) := hfin
  clear hfin
  go_enter Try.func115, Try.ntmps115
  go_wp2_with (first | ((refine wpList_fbin (o := ⟨some 11, _, _, _, _, _⟩) rfl _ _ _ _ _ rfl (by decide) _ _ _ rfl rfl ?_; intro y ny hy); have ty : (FloatKind.f64.format.order y 0 != some .eq) = true := (by rw [order_cmp, hy.val, vZERO]; exact HFIN.out)) | (go_at_call 93; refine (math_NaN _).mono ?_; rintro e w' ⟨rfl, rfl⟩) | fail)
  go_ret
  exact ⟨_, rfl, ⟨by decide, nan_val⟩, _, rfl⟩

theorem spec_sine_big (x : Nat) (hfin : cmp .f64 (bin .sub .f64 (val .f64 x) (val .f64 x)) (some 0) = some .eq) (h : (FloatKind.f64.format.order x 4841369599423283200 == some .gt || FloatKind.f64.format.order x 4841369599423283200 == some .eq) = true ∨ ((FloatKind.f64.format.order x 4841369599423283200 == some .gt || FloatKind.f64.format.order x 4841369599423283200 == some .eq) = false ∧ (FloatKind.f64.format.order x 14064741636278059008 == some .lt || FloatKind.f64.format.order x 14064741636278059008 == some .eq) = true)) (w : World) :
    Calls Try.prog 115 #[.float .f64 x] w fun e w' => ∃ r, e = .returned (.float .f64 r) ∧ FR .f64 r (some 0) ∧ ∃ n, w' = w.drewN n := by
  have HFIN : Hid (cmp .f64 (bin .sub .f64 (val .f64 x) (val .f64 x)) (some 0) = some .eq) := hfin
  clear hfin
  rcases h with h | ⟨h, h'⟩
  · go_enter Try.func115, Try.ntmps115
    go_wp2_with (first | ((refine wpList_fbin (o := ⟨some 11, _, _, _, _, _⟩) rfl _ _ _ _ _ rfl (by decide) _ _ _ rfl rfl ?_; intro y ny hy); have ty : (FloatKind.f64.format.order y 0 != some .eq) = false := (by rw [order_cmp, hy.val, vZERO, HFIN.out]; rfl)) | fail)
    go_ret
    exact ⟨0, rfl, ⟨by decide, vZERO⟩, _, rfl⟩
  · go_enter Try.func115, Try.ntmps115
    go_wp2_with (first | ((refine wpList_fbin (o := ⟨some 11, _, _, _, _, _⟩) rfl _ _ _ _ _ rfl (by decide) _ _ _ rfl rfl ?_; intro y ny hy); have ty : (FloatKind.f64.format.order y 0 != some .eq) = false := (by rw [order_cmp, hy.val, vZERO, HFIN.out]; rfl)) | fail)
    go_ret
    exact ⟨0, rfl, ⟨by decide, vZERO⟩, _, rfl⟩

theorem nar_zero : NarOk (some 0) ∧ nar (some 0) = some 0 := ⟨NarOk.of_le (by decide +kernel), by show some (N 0) = some 0; rw [show N 0 = 0 by decide +kernel]⟩

theorem spec_l01Sine (x : Nat) (hx : x < 4294967296) (w : World) : Calls Try.prog 91 #[.float .f32 x] w fun e w' => ∃ r, e = .returned (.float .f32 r) ∧ FR .f32 r (sineTurnsV (val .f32 x)) ∧ ∃ n, w' = w.drewN n := by
  rcases val_cases .f32 x with hv | hv
  · have hfs := isFin_some hv
    have hnn := (nn_iff .f32 x).1 hv
    have Hv : Hid (val .f32 x = some x) := hv
    by_cases hfin : rung single x < single.infRung
    · rw [decide_eq_true hfin] at hfs
      have hWf := (W_fin hfin).2.2
      by_cases hsm : rung double (W x) < 4841369599423283200
      · obtain ⟨n, hn, hbd⟩ := small_frac hsm
        have hw : wid (val .f32 x) = some (W x) := by rw [hv]; rfl
        have hgoal : sineTurnsV (val .f32 x) = nar (sineV (fracV (wid (val .f32 x)) n)) := by
          have hb : belowV (wid (val .f32 x)) = true := by rw [hw]; simp only [belowV]; exact decide_eq_true hsm
          unfold sineTurnsV; rw [hfs, hb, if_pos rfl, if_pos rfl, hw]; simp only [wholeV]; rw [hn]; rfl
        have hok : NarOk (sineV (fracV (wid (val .f32 x)) n)) := by rw [hw]; exact sineV_ok (frac_bd hbd)
        have HG : Hid (sineTurnsV (val .f32 x) = nar (sineV (fracV (wid (val .f32 x)) n))) := hgoal
        have HB : Hid (rung double (W x) < 4841369599423283200) := hsm
        have HN : Hid (floatToIntVal .f64 (W x) .i64 = some n) := hn
        have HF : Hid (rung double (W x) < double.infRung) := hWf
        clear hgoal hv hw hsm hn hbd hfs hWf hfin
        go_enter Try.func91, Try.ntmps91
        go_wp2_with (first | (refine wpList_widen (o := ⟨some 4, _, _, _, _, _⟩) rfl _ _ _ rfl _ rfl (by kernel_rfl) (by kernel_rfl) ?_; intro z nz hz) | (go_at_call 115; refine (spec_sine _ n (by rw [(FR_wid Hv.out hz).2]; exact HN.out) (by rw [(FR_wid Hv.out hz).1, (FR_wid Hv.out hz).2]; exact sub_self .f64 HF.out) (by rw [hi_geq (FR_wid Hv.out hz).1, (FR_wid Hv.out hz).2]; exact decide_eq_false (fun h => h.2 HB.out)) (by rw [lo_leq (FR_wid Hv.out hz).1, (FR_wid Hv.out hz).2]; exact decide_eq_false (fun h => h.2 HB.out)) _).mono ?_; rintro e w' ⟨s, rfl, hs, ns, rfl⟩; rw [hz.val] at hs) | (go_at_call 114; refine (spec_l01Narrow _ (by rw [hs.val]; exact hok) _).mono ?_; rintro e w' ⟨r, rfl, hr, nr, rfl⟩))
        go_ret
        refine ⟨r, rfl, ?_, _, rfl⟩
        rw [hs.val] at hr
        rw [HG.out]; exact hr
      · have hgoal : sineTurnsV (val .f32 x) = some 0 := by
          have hw : wid (val .f32 x) = some (W x) := by rw [hv]; rfl
          have hb : belowV (wid (val .f32 x)) = false := by rw [hw]; simp only [belowV]; exact decide_eq_false hsm
          unfold sineTurnsV; rw [hfs, hb]; rfl
        have HG : Hid (sineTurnsV (val .f32 x) = some 0) := hgoal
        have HB : Hid (¬ rung double (W x) < 4841369599423283200) := hsm
        have HF : Hid (rung double (W x) < double.infRung) := hWf
        clear hgoal hv hsm hfs hWf hfin
        go_enter Try.func91, Try.ntmps91
        go_wp2_with (first | (refine wpList_widen (o := ⟨some 4, _, _, _, _, _⟩) rfl _ _ _ rfl _ rfl (by kernel_rfl) (by kernel_rfl) ?_; intro z nz hz) | (go_at_call 115; refine (spec_sine_big _ (by rw [(FR_wid Hv.out hz).1, (FR_wid Hv.out hz).2]; exact sub_self .f64 HF.out) (by rw [hi_geq (FR_wid Hv.out hz).1, lo_leq (FR_wid Hv.out hz).1, (FR_wid Hv.out hz).2]; have := HB.out; cases sgn double (W x) <;> simp [this]) _).mono ?_; rintro e w' ⟨s, rfl, hs, ns, rfl⟩) | (go_at_call 114; refine (spec_l01Narrow _ (by rw [hs.val]; exact nar_zero.1) _).mono ?_; rintro e w' ⟨r, rfl, hr, nr, rfl⟩))
        go_ret
        refine ⟨r, rfl, ?_, _, rfl⟩
        rw [hs.val, nar_zero.2] at hr
        rw [HG.out]; exact hr
    · have hinf : rung single x = single.infRung := by
        have : rung single x ≤ single.infRung := hnn
        omega
      have hgoal : sineTurnsV (val .f32 x) = none := by unfold sineTurnsV; rw [hfs, decide_eq_false hfin]; rfl
      have HG : Hid (sineTurnsV (val .f32 x) = none) := hgoal
      have HI : Hid (rung double (W x) = double.infRung) := (W_inf hinf).1
      clear hgoal hv hfs hfin hinf
      go_enter Try.func91, Try.ntmps91
      go_wp2_with (first | (refine wpList_widen (o := ⟨some 4, _, _, _, _, _⟩) rfl _ _ _ rfl _ rfl (by kernel_rfl) (by kernel_rfl) ?_; intro z nz hz) | (go_at_call 115; refine (spec_sine_nan _ (by rw [(FR_wid Hv.out hz).1, (FR_wid Hv.out hz).2, sub_inf .f64 HI.out]; rfl) _).mono ?_; rintro e w' ⟨s, rfl, hs, ns, rfl⟩) | (go_at_call 114; refine (spec_l01Narrow _ (by rw [hs.val]; exact NarOk.none) _).mono ?_; rintro e w' ⟨r, rfl, hr, nr, rfl⟩))
      go_ret
      refine ⟨r, rfl, ?_, _, rfl⟩
      rw [hs.val] at hr
      rw [HG.out]; exact hr
  · have hgoal : sineTurnsV (val .f32 x) = none := by rw [hv]; rfl
    have HG : Hid (sineTurnsV (val .f32 x) = none) := hgoal
    have Hv : Hid (val .f32 x = none) := hv
    clear hgoal hv
    go_enter Try.func91, Try.ntmps91
    go_wp2_with (first | (refine wpList_widen (o := ⟨some 4, _, _, _, _, _⟩) rfl _ _ _ rfl _ rfl (by kernel_rfl) (by kernel_rfl) ?_; intro z nz hz) | (go_at_call 115; refine (spec_sine_nan _ (by rw [hz.val, Hv.out]; rfl) _).mono ?_; rintro e w' ⟨s, rfl, hs, ns, rfl⟩) | (go_at_call 114; refine (spec_l01Narrow _ (by rw [hs.val]; exact NarOk.none) _).mono ?_; rintro e w' ⟨r, rfl, hr, nr, rfl⟩))
    go_ret
    refine ⟨r, rfl, ?_, _, rfl⟩
    rw [hs.val] at hr
    rw [HG.out]; exact hr

end Go.Proofs.Ytnibobbfepdeiaa
namespace Go.Proofs.Ytnibobbfepdeiaa
open Fl Go.RowKit Go.Proofs.YtnibobbfepdeiaaW.PrintWords Go.Proofs.YtnibobbfepdeiaaW.PrintLast Go.Proofs.YtnibobbfepdeiaaW.PrintMore Go.Proofs.Ytnibobbfepdeiaa.PMesh Msh
set_option linter.unusedVariables false
set_option linter.unusedSimpArgs false

/-- A place of a ring of m sides. -/
def rptV (v0 v1 m k : Nat) : S59 := ⟨canB (bin .mul .f32 (val .f32 v0) (sineTurnsV (bin .add .f32 (bin .quo .f32 (val .f32 (floatOfInt .f32 ((k % m : Nat) : Int))) (val .f32 (floatOfInt .f32 (m : Int)))) (val .f32 1048576000)))), canB (bin .mul .f32 (val .f32 v0) (sineTurnsV (bin .quo .f32 (val .f32 (floatOfInt .f32 ((k % m : Nat) : Int))) (val .f32 (floatOfInt .f32 (m : Int)))))), canB (bin .mul .f32 (val .f32 (floatOfInt .f32 ((k / m : Nat) : Int))) (val .f32 v1))⟩
def ringP (W H v0 v1 : Nat) : List S59 := (List.range ((H + 1) * W)).map (rptV v0 v1 W)
def triD (m x y : Nat) : List Int := [(x : Int) + (m : Int) * (y : Int), (((x + 1) % m : Nat) : Int) + (m : Int) * (y : Int), (((x + 1) % m : Nat) : Int) + (m : Int) * (y : Int) + (m : Int)]
def triE (m x y : Nat) : List Int := [(x : Int) + (m : Int) * (y : Int), (((x + 1) % m : Nat) : Int) + (m : Int) * (y : Int) + (m : Int), (x : Int) + (m : Int) * (y : Int) + (m : Int)]
def ringTn (m n : Nat) : List (List Int) := (List.range n).flatMap fun k => [triD m (k % m) (k / m), triE m (k % m) (k / m)]
def ringT (W H : Nat) : List (List Int) := ringTn W (H * W)
theorem ringTn_succ (m n : Nat) : ringTn m (n + 1) = ringTn m n ++ [triD m (n % m) (n / m), triE m (n % m) (n / m)] := by unfold ringTn; rw [List.range_succ, List.flatMap_append]; simp
theorem ringTn_len (m n : Nat) : (ringTn m n).length = 2 * n := by
  induction n with
  | zero => rfl
  | succ n ih => rw [ringTn_succ, List.length_append, ih]; simp; omega
theorem ringTn_step (m x y : Nat) (hx : x < m) : ringTn m (y * m + (x + 1)) = ringTn m (y * m + x) ++ [triD m x y, triE m x y] := by
  have e1 : (y * m + x) % m = x := by rw [Nat.add_comm, Nat.add_mul_mod_self_right, Nat.mod_eq_of_lt hx]
  have e2 : (y * m + x) / m = y := by rw [Nat.add_comm, Nat.add_mul_div_right _ _ (by omega), Nat.div_eq_of_lt hx, Nat.zero_add]
  rw [show y * m + (x + 1) = (y * m + x) + 1 from rfl, ringTn_succ, e1, e2]
/-- n places of a ring, up to what no law sees. -/
def PR (v0 v1 m n : Nat) (l : List S59) : Prop := simP l ((List.range n).map (rptV v0 v1 m))
theorem PR.len {v0 v1 m n : Nat} {l : List S59} (h : PR v0 v1 m n l) : l.length = n := by have := h.1; rwa [List.length_map, List.length_range] at this
theorem PR.zero (v0 v1 m : Nat) : PR v0 v1 m 0 [] := simP_nil
theorem PR.row {v0 v1 m y : Nat} {l : List S59} (h : PR v0 v1 m (y * m + m) l) : PR v0 v1 m ((y + 1) * m) l := by rwa [Nat.succ_mul]
theorem PR.step {v0 v1 m x y : Nat} {l : List S59} (h : PR v0 v1 m (y * m + x) l) (hx : x < m) {p q r : Nat} (hp : FR .f32 p (bin .mul .f32 (val .f32 v0) (sineTurnsV (bin .add .f32 (bin .quo .f32 (val .f32 (floatOfInt .f32 (x : Int))) (val .f32 (floatOfInt .f32 (m : Int)))) (val .f32 1048576000))))) (hq : FR .f32 q (bin .mul .f32 (val .f32 v0) (sineTurnsV (bin .quo .f32 (val .f32 (floatOfInt .f32 (x : Int))) (val .f32 (floatOfInt .f32 (m : Int))))))) (hr : FR .f32 r (bin .mul .f32 (val .f32 (floatOfInt .f32 (y : Int))) (val .f32 v1))) : PR v0 v1 m (y * m + (x + 1)) (l ++ [⟨p, q, r⟩]) := by
  have e1 : (y * m + x) % m = x := by rw [Nat.add_comm, Nat.add_mul_mod_self_right, Nat.mod_eq_of_lt hx]
  have e2 : (y * m + x) / m = y := by rw [Nat.add_comm, Nat.add_mul_div_right _ _ (by omega), Nat.div_eq_of_lt hx, Nat.zero_add]
  unfold PR
  rw [show y * m + (x + 1) = (y * m + x) + 1 from rfl, List.range_succ, List.map_append, List.map_singleton]
  refine simP_append h (simP_one ?_)
  unfold rptV
  rw [e1, e2]
  exact ⟨canB_sim hp, canB_sim hq, canB_sim hr⟩
theorem tmod_nat (x m : Nat) : Int.tmod ((x : Int) + 1) (m : Int) = (((x + 1) % m : Nat) : Int) := rfl
section
variable {P : Program} {ops : Array Oper} {Q : Exit → Act → World → Prop} {K : Act → World → Prop}
/-- An operation on floats, as a step of a region that draws. -/
theorem fbin_step {oi : Oper} {N : Option Tmp} {a : Act} {w : World} (hw : Region.wanted oi (yielded ops a.tmps) = true) (hN : oi.dst = N) (op : BinOp) (t t' : TypeId) (x y : Operand) (ho : oi.op = .binOp op t x y t')
    (hop : op = .add ∨ op = .sub ∨ op = .mul ∨ op = .quo) (bx bz : Nat) (hx : a.eval x = .float .f32 bx) (hy : a.eval y = .float .f32 bz)
    (h : ∀ r n, FR .f32 r (bin op .f32 (val .f32 bx) (val .f32 bz)) → K (a.put N (.float .f32 r)) (w.drewN n)) : if Region.wanted oi (yielded ops a.tmps) = true then Oper.wp P oi a w K Q else K (a.put N undef) w := by
  obtain ⟨r, n, hr, hf⟩ := run_arith (P := P) op hop t .f32 bx bz w
  refine value_ (v := .float .f32 r) (w1 := w.drewN n) hw hN ?_ (h r n hf)
  unfold execOp
  rw [ho]
  simp only [hx, hy]
  have hq := run_float_guard (P := P) op t x y .f32 bx bz w
  simp [hq, hr]
end
end Go.Proofs.Ytnibobbfepdeiaa
namespace Go.Proofs.Ytnibobbfepdeiaa.Msh
open Fl Go.RowKit Go.Proofs.YtnibobbfepdeiaaW.PrintWords Go.Proofs.Ytnibobbfepdeiaa.PMesh
set_option linter.unusedVariables false

theorem min_f (p q : Nat) : spec_l00Min.f (p : Int) (q : Int) = some ((min p q : Nat) : Int) := by
  unfold spec_l00Min.f
  split <;> (congr 1; omega)
theorem max_f (p q : Nat) : spec_l00Max.f (p : Int) (q : Int) = some ((max p q : Nat) : Int) := by
  unfold spec_l00Max.f
  split <;> (congr 1; omega)
theorem idx_lt {n p q : Nat} (hp : p < n) (hq : q < n) : p * n + q < n * n := by
  have := Nat.mul_le_mul_right n (show p + 1 ≤ n from hp)
  rw [Nat.succ_mul] at this
  omega
theorem idx_inj {n a b p q : Nat} (hb : b < n) (hq : q < n) (h : a * n + b = p * n + q) : a = p ∧ b = q := by
  have h1 : (a * n + b) / n = a := by rw [Nat.add_comm, Nat.add_mul_div_right _ _ (by omega), Nat.div_eq_of_lt hb, Nat.zero_add]
  have h2 : (p * n + q) / n = p := by rw [Nat.add_comm, Nat.add_mul_div_right _ _ (by omega), Nat.div_eq_of_lt hq, Nat.zero_add]
  rw [h, h2] at h1
  subst h1
  exact ⟨rfl, by omega⟩
theorem idx_wrap {n p q : Nat} (hn : n ≤ 64) (hp : p < n) (hq : q < n) : wrap64 (wrap64 ((p : Int) * (n : Int)) + (q : Int)) = ((p * n + q : Nat) : Int) := by
  have h1 := idx_lt hp hq
  have h2 : n * n ≤ 4096 := by have := Nat.mul_le_mul hn hn; omega
  have e : (p : Int) * (n : Int) = ((p * n : Nat) : Int) := by rw [Int.natCast_mul]
  rw [e]
  generalize p * n = x at *
  generalize n * n = y at *
  have h3 : wrap64 (x : Int) = (x : Int) := wrap_fit (by omega) (by omega)
  rw [h3, wrap_fit (by omega) (by omega), Int.natCast_add]

/-- Pairs that are marked in a table. -/
def Seen (n : Nat) (ps : List (Nat × Nat)) (s : List Bool) : Prop := s.length = n * n ∧ ∀ a b, a < n → b < n → s.getD (a * n + b) false = decide ((a, b) ∈ ps)
theorem Seen.start (n : Nat) : Seen n [] (List.replicate (n * n) false) := ⟨by simp, fun a b ha hb => by
  have := idx_lt ha hb
  rw [List.getD_eq_getElem?_getD, List.getElem?_replicate]
  simp [this]⟩
theorem Seen.step {n : Nat} {ps : List (Nat × Nat)} {s : List Bool} (h : Seen n ps s) {p q : Nat} (hp : p < n) (hq : q < n) : Seen n (ps ++ [(p, q)]) (s.set (p * n + q) true) := by
  refine ⟨by rw [List.length_set]; exact h.1, fun a b ha hb => ?_⟩
  have hl := idx_lt hp hq
  rw [← h.1] at hl
  rw [List.getD_eq_getElem?_getD]
  by_cases e : p * n + q = a * n + b
  · obtain ⟨rfl, rfl⟩ := idx_inj hq hb e
    rw [List.getElem?_set_self hl]
    simp
  · rw [List.getElem?_set_ne e, ← List.getD_eq_getElem?_getD, h.2 a b ha hb, decide_eq_decide]
    constructor
    · intro hm; simp [hm]
    · intro hm
      rcases List.mem_append.1 hm with hm | hm
      · exact hm
      · simp at hm
        exact absurd (by rw [hm.1, hm.2]) e

section
variable (Q : List S59) (T : List (List Int))
theorem e1_step (k n : Nat) (hn : n ≤ 64) (s : List Bool) (hl : s.length = n * n) (i : Int) (t : List Int) (j j1 : Int) (p q : Nat) (hp : p < n) (hq : q < n) (h0 : 0 ≤ j) (h3 : j < 3) (ht : t.length = 3) (hj : Int.tmod (wrap64 (j + 1)) 3 = j1) (hj0 : 0 ≤ j1) (hj3 : j1 < 3) (e1 : rd t j = (p : Int)) (e2 : rd t j1 = (q : Int)) :
    spec_l02Edges.l1 (k + 1) (n : Int) s i t j Q T = spec_l02Edges.l1 k (n : Int) (s.set (min p q * n + max p q) true) i t (wrap64 (j + 1)) Q T := by
  have hm : min p q < n := by omega
  have hM : max p q < n := by omega
  simp only [spec_l02Edges.l1]
  rw [if_pos h3, if_pos h0, if_pos (by rw [ht]; omega), hj, if_pos hj0, if_pos (by rw [ht]; omega), e1, e2, min_f, max_f]
  have hx := idx_lt hm hM
  rw [Option.bind_some, Option.bind_some, idx_wrap hn hm hM, if_pos (Int.natCast_nonneg _), if_pos (by rw [hl]; exact Int.ofNat_lt.2 hx), Int.toNat_natCast]

theorem w01 : wrap64 (0 + 1) = 1 := by rw [wrap_fit (by omega) (by omega)]; rfl
theorem w12 : wrap64 (1 + 1) = 2 := by rw [wrap_fit (by omega) (by omega)]; rfl
theorem w23 : wrap64 (2 + 1) = 3 := by rw [wrap_fit (by omega) (by omega)]; rfl
theorem e1_all (k n : Nat) (hn : n ≤ 64) (s : List Bool) (ps : List (Nat × Nat)) (hs : Seen n ps s) (i : Int) (a b c : Nat) (ha : a < n) (hb : b < n) (hc : c < n) :
    ∃ s', Seen n (ps ++ [edgeN (a, b), edgeN (b, c), edgeN (c, a)]) s' ∧ spec_l02Edges.l1 (k + 4) (n : Int) s i [(a : Int), (b : Int), (c : Int)] 0 Q T = spec_l02Edges.l0 k (n : Int) s' (wrap64 (i + 1)) Q T := by
  have s1 := hs.step (p := min a b) (q := max a b) (by omega) (by omega)
  have s2 := s1.step (p := min b c) (q := max b c) (by omega) (by omega)
  have s3 := s2.step (p := min c a) (q := max c a) (by omega) (by omega)
  refine ⟨_, by simpa [edgeN] using s3, ?_⟩
  rw [e1_step Q T (k + 3) n hn s hs.1 i _ 0 1 a b ha hb (by omega) (by omega) rfl (by rw [w01]; rfl) (by omega) (by omega) rfl rfl, w01]
  rw [e1_step Q T (k + 2) n hn _ s1.1 i _ 1 2 b c hb hc (by omega) (by omega) rfl (by rw [w12]; rfl) (by omega) (by omega) rfl rfl, w12]
  rw [e1_step Q T (k + 1) n hn _ s2.1 i _ 2 0 c a hc ha (by omega) (by omega) rfl (by rw [w23]; rfl) (by omega) (by omega) rfl rfl, w23]
  simp only [spec_l02Edges.l1]
  rw [if_neg (by omega)]

theorem e0_loop (n : Nat) (hn : n ≤ 64) (hT : T.length ≤ 128) (ht : T.all (triB n) = true) (d : Nat) : ∀ (k i : Nat) (s : List Bool), i ≤ T.length → T.length - i = d → Seen n ((tways (T.take i)).map edgeN) s → 5 * d + 1 < k →
    ∃ s' k', Seen n ((tways T).map edgeN) s' ∧ k' + 5 * d + 1 = k ∧ spec_l02Edges.l0 k (n : Int) s (i : Int) Q T = spec_l02Edges.l2 k' (n : Int) s' [] 0 := by
  induction d with
  | zero =>
    intro k i s hi hd hs hk
    obtain ⟨k, rfl⟩ : ∃ j, k = j + 1 := ⟨k - 1, by omega⟩
    rw [List.take_of_length_le (by omega)] at hs
    refine ⟨s, k, hs, by omega, ?_⟩
    simp only [spec_l02Edges.l0]
    rw [if_neg (by omega)]
  | succ d ih =>
    intro k i s hi hd hs hk
    obtain ⟨k, rfl⟩ : ∃ j, k = j + 5 := ⟨k - 5, by omega⟩
    have hil : i < T.length := by omega
    obtain ⟨a, b, c, et, ha, hb, hc, _⟩ := tri_natE (List.all_eq_true.1 ht T[i] (List.getElem_mem hil))
    obtain ⟨s1, hs1, e1⟩ := e1_all Q T k n hn s _ hs (i : Int) a b c ha hb hc
    simp only [spec_l02Edges.l0]
    rw [if_pos (by omega), if_pos (by omega), rdL T i hil, et, e1, up i (by omega)]
    have hw : (tways (T.take (i + 1))).map edgeN = (tways (T.take i)).map edgeN ++ [edgeN (a, b), edgeN (b, c), edgeN (c, a)] := by
      rw [List.take_succ_eq_append_getElem hil, et, ways_snoc, ways3_nat, List.map_append]
      rfl
    obtain ⟨s', k', h1, h2, h3⟩ := ih k (i + 1) s1 (by omega) (by omega) (by rw [hw]; exact hs1) (by omega)
    exact ⟨s', k', h1, by omega, h3⟩

/-- The edges from a on to places before b. -/
def edgesB (T : List (List Int)) (a b : Nat) : List (List Int) := ((List.range b).filter fun b => decide (a < b) && isE T a b).map fun b : Nat => ([(a : Int), (b : Int)] : List Int)
theorem edgesB_start (a : Nat) : edgesB T a (a + 1) = [] := by
  unfold edgesB
  rw [List.map_eq_nil_iff, List.filter_eq_nil_iff]
  intro x hx
  simp at hx
  simp
  omega
theorem edgesB_succ (a b : Nat) (h : a < b) : edgesB T a (b + 1) = edgesB T a b ++ (if isE T a b = true then [[(a : Int), (b : Int)]] else []) := by
  unfold edgesB
  rw [List.range_succ, List.filter_append, List.map_append]
  congr 1
  by_cases he : isE T a b = true
  · simp [he, h]
  · simp [he]

theorem e3_loop (n : Nat) (hn : n ≤ 64) (s : List Bool) (hl : s.length = n * n) (hs : ∀ a b, a < n → b < n → a < b → s.getD (a * n + b) false = isE T a b) (a : Nat) (ha : a < n) (out : List (List Int)) (ho : out.length ≤ a * 64) (d : Nat) :
    ∀ (k b : Nat), a < b → b ≤ n → n - b = d → d + 1 < k → ∃ k', k' + d + 1 = k ∧ spec_l02Edges.l3 k (n : Int) s (out ++ edgesB T a b) (a : Int) (b : Int) = spec_l02Edges.l2 k' (n : Int) s (out ++ edgesA n T a) (wrap64 ((a : Int) + 1)) := by
  induction d with
  | zero =>
    intro k b hab hb hd hk
    obtain ⟨k, rfl⟩ : ∃ j, k = j + 1 := ⟨k - 1, by omega⟩
    obtain rfl : b = n := by omega
    refine ⟨k, by omega, ?_⟩
    simp only [spec_l02Edges.l3]
    rw [if_neg (by omega)]
    rfl
  | succ d ih =>
    intro k b hab hb hd hk
    obtain ⟨k, rfl⟩ : ∃ j, k = j + 1 := ⟨k - 1, by omega⟩
    have hbn : b < n := by omega
    have hidx := idx_lt ha hbn
    obtain ⟨k', hk', e⟩ := ih k (b + 1) (by omega) (by omega) (by omega) (by omega)
    refine ⟨k', by omega, ?_⟩
    rw [← e, edgesB_succ T a b hab]
    have hlen : (edgesB T a b).length ≤ b := by unfold edgesB; rw [List.length_map]; have := List.length_filter_le (fun x => decide (a < x) && isE T a x) (List.range b); simpa using this
    simp only [spec_l02Edges.l3]
    rw [if_pos (by omega), idx_wrap hn ha hbn, if_pos (Int.natCast_nonneg _), if_pos (by rw [hl]; exact Int.ofNat_lt.2 hidx)]
    have hr : rdOf false s ((a * n + b : Nat) : Int) = isE T a b := by unfold rdOf; rw [Int.toNat_natCast]; exact hs a b ha hbn hab
    rw [hr, up b (by omega)]
    by_cases he : isE T a b = true
    · rw [if_pos he, if_pos he, if_pos (by rw [List.length_append]; omega), List.append_assoc]
    · rw [if_neg he, if_neg he, List.append_nil]

theorem e2_loop (n : Nat) (hn : n ≤ 64) (s : List Bool) (hl : s.length = n * n) (hs : ∀ a b, a < n → b < n → a < b → s.getD (a * n + b) false = isE T a b) (d : Nat) :
    ∀ (k a : Nat), a ≤ n → n - a = d → d * 70 + 1 < k → spec_l02Edges.l2 k (n : Int) s ((List.range a).flatMap (edgesA n T)) (a : Int) = some (edgesL n T) := by
  induction d with
  | zero =>
    intro k a ha hd hk
    obtain ⟨k, rfl⟩ : ∃ j, k = j + 1 := ⟨k - 1, by omega⟩
    obtain rfl : a = n := by omega
    simp only [spec_l02Edges.l2]
    rw [if_neg (by omega)]
    rfl
  | succ d ih =>
    intro k a ha hd hk
    obtain ⟨k, rfl⟩ : ∃ j, k = j + 1 := ⟨k - 1, by omega⟩
    have han : a < n := by omega
    have hlen : ((List.range a).flatMap (edgesA n T)).length ≤ a * 64 := by
      have key : ∀ m : Nat, ((List.range m).flatMap (edgesA n T)).length ≤ m * 64 := by
        intro m
        induction m with
        | zero => simp
        | succ m ih =>
          rw [List.range_succ, List.flatMap_append, List.length_append]
          have : (edgesA n T m).length ≤ 64 := by unfold edgesA; rw [List.length_map]; have := List.length_filter_le (fun x => decide (m < x) && isE T m x) (List.range n); simp at this; omega
          rw [show List.flatMap (edgesA n T) [m] = edgesA n T m by simp]
          omega
      exact key a
    simp only [spec_l02Edges.l2]
    rw [if_pos (by omega), up a (by omega)]
    obtain ⟨k', hk', e⟩ := e3_loop T n hn s hl hs a han _ hlen (n - (a + 1)) k (a + 1) (by omega) (by omega) rfl (by omega)
    rw [edgesB_start, List.append_nil] at e
    rw [e, up a (by omega)]
    have := ih k' (a + 1) (by omega) (by omega) (by omega)
    rw [List.range_succ, List.flatMap_append] at this
    simpa using this
end

/-- What l02Edges computes of a valid mesh. -/
theorem edges_f (Q : List S59) (T : List (List Int)) (hv : validB Q.length T = true) : spec_l02Edges.f 10000 Q T = some (edgesL Q.length T) := by
  obtain ⟨hn, hT, ht⟩ := validB_iff.1 hv
  have hnn : Q.length * Q.length ≤ 4096 := by have := Nat.mul_le_mul hn hn; omega
  have e : wrap64 ((Q.length : Int) * (Q.length : Int)) = ((Q.length * Q.length : Nat) : Int) := by rw [← Int.natCast_mul]; exact wrap_fit (by omega) (by omega)
  unfold spec_l02Edges.f
  rw [e, if_pos (by omega), Int.toNat_natCast, if_pos (by omega)]
  obtain ⟨s, k', h1, h2, h3⟩ := e0_loop Q T Q.length hn hT ht T.length 10000 0 _ (by omega) (by omega) (by simpa [tways] using Seen.start Q.length) (by omega)
  rw [show ((0 : Nat) : Int) = 0 from rfl] at h3
  rw [h3]
  have hs : ∀ a b, a < Q.length → b < Q.length → a < b → s.getD (a * Q.length + b) false = isE T a b := by
    intro a b ha hb hab
    rw [h1.2 a b ha hb]
    have := mem_edges ht hab
    by_cases he : isE T a b = true
    · rw [he, decide_eq_true (this.2 he)]
    · rw [Bool.eq_false_iff.2 he]
      exact decide_eq_false (fun h => he (this.1 h))
  have := e2_loop T Q.length hn s h1.1 hs Q.length k' 0 (by omega) (by omega) (by omega)
  rw [show ((0 : Nat) : Int) = 0 from rfl] at this
  simpa using this
end Go.Proofs.Ytnibobbfepdeiaa.Msh
namespace Go.Proofs.Ytnibobbfepdeiaa
open Fl Go.RowKit Go.Proofs.YtnibobbfepdeiaaW.PrintWords Go.Proofs.YtnibobbfepdeiaaW.PrintLast Go.Proofs.YtnibobbfepdeiaaW.PrintMore Go.Proofs.Ytnibobbfepdeiaa.PMesh Msh Ieee
set_option linter.unusedVariables false

def octP : List S59 := [⟨1073741824, 0, 0⟩, ⟨3221225472, 0, 0⟩, ⟨0, 1073741824, 0⟩, ⟨0, 3221225472, 0⟩, ⟨0, 0, 1073741824⟩, ⟨0, 0, 3221225472⟩]
def octT : List (List Int) := [[0, 2, 4], [2, 1, 4], [1, 3, 4], [3, 0, 4], [2, 0, 5], [1, 2, 5], [3, 1, 5], [0, 3, 5]]
def octE : List (List Int) := [[0, 2], [0, 3], [0, 4], [0, 5], [1, 2], [1, 3], [1, 4], [1, 5], [2, 4], [2, 5], [3, 4], [3, 5]]
/-- The middle of two places. -/
def halfV (x y : S59) : S59 := scaleV 1056964608 (moveV y.f0 y.f1 y.f2 x)
/-- The same, put upon the ball of radius 2. -/
def midV (x y : S59) : S59 := scaleV (canB (bin .quo .f32 (val .f32 1073741824) (longV (val .f32 (halfV x y).f0) (val .f32 (halfV x y).f1) (val .f32 (halfV x y).f2)))) (halfV x y)
def midE (e : List Int) : S59 := midV (octP.getD (rd e 0).toNat ⟨0, 0, 0⟩) (octP.getD (rd e 1).toNat ⟨0, 0, 0⟩)
def ballP : List S59 := octP ++ octE.map midE
def idxE (a b : Int) : Int := ((octE.findIdx fun e => e == [min a b, max a b]) : Nat)
/-- The four triangles of a triangle. -/
def four (t : List Int) : List (List Int) := [[rd t 0, 6 + idxE (rd t 0) (rd t 1), 6 + idxE (rd t 2) (rd t 0)], [6 + idxE (rd t 0) (rd t 1), rd t 1, 6 + idxE (rd t 1) (rd t 2)], [6 + idxE (rd t 2) (rd t 0), 6 + idxE (rd t 1) (rd t 2), rd t 2], [6 + idxE (rd t 0) (rd t 1), 6 + idxE (rd t 1) (rd t 2), 6 + idxE (rd t 2) (rd t 0)]]
def ballT : List (List Int) := octT.flatMap four

/-- The coordinates of the forms. -/
def cC : List Nat := [0, 2147483648, 1065353216, 1073741824, 3221225472, 1056964608, 1068827891, 3216311539]
def cooB (x : S59) : Bool := cC.contains x.f0 && (cC.contains x.f1 && cC.contains x.f2)
def cOk (r : Nat) : Bool := decide (r < 4294967296) && (decide (rung single r < single.infRung) && (decide ((2 ^ 126 : Nat) ∣ (iv single r).natAbs) && decide ((iv single r).natAbs ≤ 2 ^ 151)))
theorem all_ok : (cC.all fun q => (List.range 9).all fun m => cOk (canB (bin .add .f32 (val .f32 q) (val .f32 (eighth m))))) = true := by decide +kernel
theorem all_val : (cC.all fun q => val .f32 q == some q) = true := by decide +kernel
theorem oct_edges : edgesL 6 octT = octE := by decide +kernel
def formB (Q : List S59) (T : List (List Int)) : Bool := Q.all cooB && (validB Q.length T && (decide (T.length ≤ 32) && decide (Q.length ≤ 32)))
theorem form_grid : formB (gridP 2 2 1065353216) (gridT 2 2) = true := by decide +kernel
theorem form_ring : formB (ringP 4 2 1073741824 1056964608) (ringT 4 2) = true := by decide +kernel
theorem form_oct : formB octP octT = true := by decide +kernel
theorem form_ball : formB ballP ballT = true := by decide +kernel

theorem cOk_val {r : Nat} (h : cOk r = true) : ∃ v, Fv (val .f32 r) v ∧ In2 126 151 v := by
  unfold cOk at h
  simp only [Bool.and_eq_true, decide_eq_true_eq] at h
  obtain ⟨h1, h2, h3, h4⟩ := h
  have hb : Fv (some r) (iv single r) := ⟨r, rfl, h2, rfl⟩
  refine ⟨iv single r, canB_val hb, ⟨?_, h4⟩⟩
  unfold Dv
  exact Int.ofNat_dvd_left.2 h3
theorem coo_add {q m y : Nat} (hq : cC.contains q = true) (hm : m < 9) (hs : simF y (canB (bin .add .f32 (val .f32 q) (val .f32 (eighth m)))) = true) : ∃ v, Fv (val .f32 y) v ∧ In2 126 151 v := by
  have h := List.all_eq_true.1 (List.all_eq_true.1 all_ok q (by simpa using hq)) m (List.mem_range.2 hm)
  rw [(simF_iff.1 hs).2.2]
  exact cOk_val h
theorem near_val {y x : S59} (hx : cooB x = true) (h : Near y x) : ∃ P : P3, PlOf y P ∧ P.In 126 151 := by
  unfold cooB at hx
  simp only [Bool.and_eq_true] at hx
  obtain ⟨a, b, c, ha, hb, hc, s0, s1, s2⟩ := h
  obtain ⟨u, u1, u2⟩ := coo_add hx.1 ha s0
  obtain ⟨v, v1, v2⟩ := coo_add hx.2.1 hb s1
  obtain ⟨t, t1, t2⟩ := coo_add hx.2.2 hc s2
  exact ⟨⟨u, v, t⟩, ⟨u1, v1, t1⟩, ⟨u2, v2, t2⟩⟩
theorem near_places {Q P : List S59} (hQ : Q.all cooB = true) (h : NearP Q P Q.length) : ∃ L, Places 0 P L := by
  have hp : ∀ i : Fin P.length, ∃ p : P3, PlOf P[i] p ∧ p.In 126 151 := fun i => near_val (List.all_eq_true.1 hQ _ (List.getElem_mem (by rw [← h.1]; exact i.2))) (h.2.1 i.1 i.2 (by rw [← h.1]; exact i.2) (by rw [← h.1]; exact i.2))
  refine ⟨List.ofFn fun i => (hp i).choose, ⟨by rw [List.length_ofFn], fun i hi hi' => ?_⟩⟩
  rw [List.getElem_ofFn]
  exact (hp ⟨i, hi⟩).choose_spec
/-- Places equal up to a NaN's bits to places of a form are coordinates of a form. -/
theorem coo_sim {a b : Nat} (hb : cC.contains b = true) (hs : simF a b = true) : a = b := by
  have h := List.all_eq_true.1 all_val b (by simpa using hb)
  have hv : val .f32 a = some b := (simF_iff.1 hs).2.2.trans (by simpa using h)
  exact (val_some hv).symm
theorem sim_coo {a b : S59} (hb : cooB b = true) (hs : simV a b) : a = b := by
  unfold cooB at hb
  simp only [Bool.and_eq_true] at hb
  cases a; cases b
  have h0 := coo_sim hb.1 hs.1
  have h1 := coo_sim hb.2.1 hs.2.1
  have h2 := coo_sim hb.2.2 hs.2.2
  simp only at h0 h1 h2
  rw [h0, h1, h2]
theorem sim_form {P Q : List S59} (hQ : Q.all cooB = true) (h : simP P Q) : P = Q := by
  refine List.ext_getElem h.1 fun i hi hi' => ?_
  exact sim_coo (List.all_eq_true.1 hQ _ (List.getElem_mem hi')) (h.2 i hi hi')
theorem formB_iff {Q : List S59} {T : List (List Int)} (h : formB Q T = true) : Q.all cooB = true ∧ validB Q.length T = true ∧ T.length ≤ 32 ∧ Q.length ≤ 32 := by
  unfold formB at h
  simp only [Bool.and_eq_true, decide_eq_true_eq] at h
  exact ⟨h.1, h.2.1, h.2.2.1, h.2.2.2⟩
end Go.Proofs.Ytnibobbfepdeiaa
namespace Go.Proofs.Ytnibobbfepdeiaa
open Fl Ieee
set_option linter.unusedVariables false

theorem mg_up (f : Format) {r : Nat} (h : f.binade ≤ r) : mg f (r + f.binade) = 2 * mg f r := by
  have hb := binade_pos f
  unfold mg
  generalize f.binade = c at *
  rw [if_neg (by omega), if_neg (by omega), Nat.add_mod_right, Nat.add_div_right _ hb]
  have h1 : 1 ≤ r / c := (Nat.le_div_iff_mul_le hb).2 (by omega)
  rw [show (r / c).succ - 1 = (r / c - 1) + 1 by omega, Nat.pow_succ, ← Nat.mul_assoc, Nat.mul_comm]
theorem mg_down (f : Format) {r : Nat} (k : Nat) (h : (k + 1) * f.binade ≤ r) : mg f r = 2 ^ k * mg f (r - k * f.binade) := by
  induction k with
  | zero => rw [Nat.zero_mul, Nat.sub_zero, Nat.pow_zero, Nat.one_mul]
  | succ k ih =>
    have e1 : (k + 1 + 1) * f.binade = k * f.binade + f.binade + f.binade := by rw [Nat.add_mul, Nat.add_mul, Nat.one_mul]
    have e2 : (k + 1) * f.binade = k * f.binade + f.binade := by rw [Nat.add_mul, Nat.one_mul]
    rw [ih (by omega)]
    have h2 : f.binade ≤ r - (k + 1) * f.binade := by omega
    have := mg_up f h2
    rw [show r - (k + 1) * f.binade + f.binade = r - k * f.binade by omega] at this
    rw [this, Nat.pow_succ, Nat.mul_assoc]
/-- X is a finite double of value v. -/
def Fw (X : Option Nat) (v : Int) : Prop := ∃ b, X = some b ∧ rung double b < double.infRung ∧ iv double b = v
theorem Fv.wid {X : Option Nat} {v : Int} (h : Fv X v) : Fw (wid X) (v * ((2 ^ 925 : Nat) : Int)) := by
  obtain ⟨b, rfl, hb, rfl⟩ := h
  obtain ⟨w1, w2, w3⟩ := W_fin hb
  refine ⟨W b, rfl, w3, ?_⟩
  unfold iv
  rw [w1, w2, sg_mul]

/-! ### the comparison -/
def TWO64 : Nat := 4611686018427387904
def ONE64 : Nat := 4607182418800017408
def MIL64 : Nat := 4562254508917369340
theorem iv_two : iv double TWO64 = ((2 * 2 ^ under double : Nat) : Int) := by rw [under_double]; decide +kernel
theorem iv_one64 : iv double ONE64 = ((2 ^ under double : Nat) : Int) := by rw [under_double]; decide +kernel
theorem iv_mil : iv double MIL64 = (mg double MIL64 : Int) ∧ 2 ^ under double ≤ 1024 * mg double MIL64 ∧ mg double MIL64 ≤ 2 ^ under double := by rw [under_double]; decide +kernel
theorem fin_two : rung double TWO64 < double.infRung ∧ rung double ONE64 < double.infRung ∧ rung double MIL64 < double.infRung := by decide +kernel
theorem top_single : mg single single.infRung * 2 ^ 925 ≤ mg double (1152 * double.binade) ∧ 1152 * double.binade + 3 * double.binade < double.infRung := by decide +kernel

theorem top_one : 2 ^ under double ≤ mg double (1152 * double.binade) := by rw [under_double]; decide +kernel
theorem gap_core {x y : Nat} {A : Nat} (hx : rung double x < double.infRung) (hsx : 0 < A → sgn double x = false) (hmx : mg double (rung double x) = A) (htop : rung double x ≤ 1152 * double.binade) (hlow : A = 0 ∨ 15 * double.binade ≤ rung double x)
    (hy : rung double y < double.infRung) (hd : ∀ d, iv double d = 2 * (A : Int) → 16384 * (iv double y - iv double d).natAbs ≤ A) :
    ∃ d g1 g2 o t, bin .mul .f64 (some TWO64) (some x) = some d ∧ bin .sub .f64 (some y) (some d) = some g1 ∧ bin .sub .f64 (some d) (some y) = some g2 ∧ bin .add .f64 (some ONE64) (some x) = some o ∧ bin .mul .f64 (some MIL64) (some o) = some t ∧
      rung double g1 < double.infRung ∧ rung double g2 < double.infRung ∧ rung double t < double.infRung ∧ key double g1 ≤ key double t ∧ key double g2 ≤ key double t := by
  obtain ⟨f1, f2, f3⟩ := fin_two
  obtain ⟨_, htop2⟩ := top_single
  have hbp := binade_pos double
  have hU : 0 < 2 ^ under double := Nat.two_pow_pos _
  have hvx : iv double x = (A : Int) := by
    unfold iv
    rw [hmx]
    rcases Nat.eq_zero_or_pos A with h0 | h0
    · subst h0; unfold sg; simp
    · rw [hsx h0]; rfl
  obtain ⟨d, e1, n1⟩ := rd_mul .f64 f1 hx
  obtain ⟨o, e4, n4⟩ := rd_add .f64 f2 hx
  replace n1 : Rd double d (iv double TWO64 * iv double x) (under double) := n1
  replace n4 : Rd double o (iv double ONE64 + iv double x) 0 := n4
  rw [iv_two, hvx] at n1
  rw [iv_one64, hvx] at n4
  have p1 : ((2 * 2 ^ under double : Nat) : Int) * (A : Int) = ((2 * 2 ^ under double * A : Nat) : Int) := by rw [Int.natCast_mul (2 * 2 ^ under double) A]
  have p4 : ((2 ^ under double : Nat) : Int) + (A : Int) = ((2 ^ under double + A : Nat) : Int) := by rw [Int.natCast_add]
  rw [p1] at n1
  rw [p4] at n4
  obtain ⟨c1, c2, c3⟩ := iv_mil
  generalize hUU : 2 ^ under double = U at *
  -- twice
  have hd0 : rung double d < double.infRung ∧ iv double d = 2 * (A : Int) := by
    rcases hlow with h0 | h0
    · subst h0
      have hr : rung double d = 0 := by
        have := n1.near.le (s := 0) (by rw [Nat.mul_zero]; simp)
        omega
      refine ⟨by rw [hr]; decide, ?_⟩
      unfold iv sg
      rw [hr, mg_zero]; simp
    · have hr : rung double d = rung double x + double.binade := n1.near.eq (by omega) (by
        rw [mg_up double (by omega), hmx, Int.natAbs_natCast, hUU, Nat.mul_assoc, Nat.mul_assoc, Nat.mul_comm A U])
      refine ⟨by rw [hr]; omega, ?_⟩
      have hA : 0 < A := by rw [← hmx]; exact mg_pos double (by omega)
      unfold iv
      rw [n1.near.sign (by have := Nat.mul_pos (Nat.mul_pos (show 0 < 2 by omega) hU) hA; omega), decide_eq_false (by omega), hr, mg_up double (by omega), hmx]
      unfold sg
      simp
  obtain ⟨hdf, hdv⟩ := hd0
  have hdd := hd d hdv
  obtain ⟨g1, e2, n2⟩ := rd_sub .f64 hy hdf
  obtain ⟨g2, e3, n3⟩ := rd_sub .f64 hdf hy
  replace n2 : Rd double g1 (iv double y - iv double d) 0 := n2
  replace n3 : Rd double g2 (iv double d - iv double y) 0 := n3
  have hab : (iv double d - iv double y).natAbs = (iv double y - iv double d).natAbs := by omega
  -- one more than it
  have hm1 : mg double (1152 * double.binade + double.binade) = 2 * mg double (1152 * double.binade) := mg_up double (by omega)
  have hAle : A ≤ mg double (1152 * double.binade) := by rw [← hmx]; exact (mg_le_iff double).2 htop
  have hUle := top_one
  rw [hUU] at hUle
  have hof : rung double o ≤ 1152 * double.binade + double.binade := n4.near.le (by rw [hm1, Int.natAbs_natCast, Nat.pow_zero]; omega)
  have hoge : rung double x ≤ rung double o := n4.near.ge (by omega) (by rw [hmx, Int.natAbs_natCast, Nat.pow_zero]; omega)
  have hofin : rung double o < double.infRung := by omega
  have hos : sgn double o = false := by rw [n4.near.sign (by omega)]; exact decide_eq_false (by omega)
  have hov : iv double o = (mg double (rung double o) : Int) := by unfold iv; rw [hos]; rfl
  have hO : A ≤ mg double (rung double o) := by rw [← hmx]; exact (mg_le_iff double).2 hoge
  obtain ⟨t, e5, n5⟩ := rd_mul .f64 f3 hofin
  replace n5 : Rd double t (iv double MIL64 * iv double o) (under double) := n5
  rw [c1, hov, ← Int.natCast_mul] at n5
  have htf : rung double t ≤ rung double o := n5.near.le (by
    rw [hUU, Int.natAbs_natCast, Nat.mul_comm (mg double (rung double o)) U]
    exact Nat.mul_le_mul_right _ c3)
  have htk : (rung double t : Int) = key double t := by
    unfold key
    by_cases h0 : mg double MIL64 * mg double (rung double o) = 0
    · have : rung double t = 0 := by
        have := n5.near.le (s := 0) (by rw [h0]; simp)
        omega
      rw [this]; simp
    · rw [n5.near.sign (by omega), decide_eq_false (by omega)]; rfl
  have key_le : ∀ g, key double g ≤ (rung double g : Int) := by intro g; unfold key; split <;> omega
  have main : ∀ g, (∀ s, (iv double y - iv double d).natAbs ≤ mg double s → rung double g ≤ s) → rung double g < double.infRung ∧ key double g ≤ key double t := by
    intro g hg
    rcases hlow with h0 | h0
    · have := hg 0 (by omega)
      exact ⟨by omega, by have := key_le g; omega⟩
    · have hq := mg_down double 14 (r := rung double x) (by omega)
      rw [hmx] at hq
      have h1 := hg (rung double x - 14 * double.binade) (by omega)
      have h2 : rung double x - 14 * double.binade ≤ rung double t := n5.near.ge (by omega) (by
        rw [hUU, Int.natAbs_natCast]
        generalize mg double (rung double x - 14 * double.binade) = q at *
        have m1 : q * U ≤ q * (1024 * mg double MIL64) := Nat.mul_le_mul_left _ c2
        have m2 : mg double MIL64 * A ≤ mg double MIL64 * mg double (rung double o) := Nat.mul_le_mul_left _ hO
        have m3 : mg double MIL64 * A = 16 * (q * (1024 * mg double MIL64)) := by
          rw [hq, show (2 : Nat) ^ 14 = 16 * 1024 from rfl, Nat.mul_assoc 16 1024 q, Nat.mul_left_comm _ 16, Nat.mul_comm (mg double MIL64) (1024 * q), Nat.mul_comm 1024 q, Nat.mul_assoc]
        omega)
      exact ⟨by omega, by have := key_le g; omega⟩
  obtain ⟨k1, k2⟩ := main g1 (fun s h => n2.near.le (by rw [Nat.pow_zero, Nat.mul_one]; exact h))
  obtain ⟨k3, k4⟩ := main g2 (fun s h => n3.near.le (by rw [Nat.pow_zero, Nat.mul_one, hab]; exact h))
  exact ⟨d, g1, g2, o, t, e1, e2, e3, e4, e5, k1, k3, by omega, k2, k4⟩

theorem low_ok : mg double (15 * double.binade) ≤ 2 ^ 925 := by decide +kernel
/-- Two singles, one nearly twice the other. -/
theorem gap_ok {a s : Nat} {A S : Int} (ha : Fv (some a) A) (hs : Fv (some s) S) (hA : 0 ≤ A) (hn : 16384 * (S - 2 * A).natAbs ≤ A.natAbs) :
    ∃ d g1 g2 o t, bin .mul .f64 (some TWO64) (some (W a)) = some d ∧ bin .sub .f64 (some (W s)) (some d) = some g1 ∧ bin .sub .f64 (some d) (some (W s)) = some g2 ∧ bin .add .f64 (some ONE64) (some (W a)) = some o ∧ bin .mul .f64 (some MIL64) (some o) = some t ∧
      rung double g1 < double.infRung ∧ rung double g2 < double.infRung ∧ rung double t < double.infRung ∧ key double g1 ≤ key double t ∧ key double g2 ≤ key double t := by
  obtain ⟨a', ea, fa, va⟩ := ha
  cases ea
  obtain ⟨s', es, fs, vs⟩ := hs
  cases es
  obtain ⟨w1, w2, w3⟩ := W_fin fa
  obtain ⟨u1, u2, u3⟩ := W_fin fs
  obtain ⟨t1, t2⟩ := top_single
  have hl := low_ok
  have hE : 0 < (2 : Nat) ^ 925 := Nat.two_pow_pos 925
  have hmA : mg single (rung single a) = A.natAbs := by rw [← va]; unfold iv; rw [sg_natAbs]
  have hvy : iv double (W s) = S * ((2 ^ 925 : Nat) : Int) := by
    unfold iv
    rw [u1, u2, sg_mul, ← vs]; rfl
  rw [hmA] at w1
  have hlt := mg_lt single fa
  rw [hmA] at hlt
  generalize (2 : Nat) ^ 925 = E at *
  refine gap_core (A := A.natAbs * E) w3 (fun h => ?_) w1 ?_ ?_ u3 (fun d hd => ?_)
  · rw [w2]
    have hpos : A.natAbs ≠ 0 := by intro h0; rw [h0, Nat.zero_mul] at h; omega
    exact (iv_pos (s := A.natAbs) (by rw [va]; omega) (by omega)).1
  · rw [← mg_le_iff double, w1]
    exact Nat.le_trans (Nat.mul_le_mul_right _ (Nat.le_of_lt hlt)) t1
  · by_cases h0 : A.natAbs = 0
    · left; rw [h0, Nat.zero_mul]
    · right
      rw [← mg_le_iff double, w1]
      exact Nat.le_trans hl (Nat.le_mul_of_pos_left _ (by omega))
  · rw [hvy, hd]
    have e1 : S * (E : Int) - 2 * ((A.natAbs * E : Nat) : Int) = (S - 2 * A) * (E : Int) := by
      rw [Int.natCast_mul, show (A.natAbs : Int) = A by omega, Int.sub_mul, Int.mul_assoc]
    rw [e1, Int.natAbs_mul, Int.natAbs_natCast, ← Nat.mul_assoc]
    exact Nat.mul_le_mul_right _ hn
end Go.Proofs.Ytnibobbfepdeiaa
namespace Go.Proofs.Ytnibobbfepdeiaa
open Fl Go.RowKit Go.Proofs.YtnibobbfepdeiaaW.PrintWords Go.Proofs.Ytnibobbfepdeiaa.PMesh Msh Ieee
set_option linter.unusedVariables false

theorem In2.two {j e k : Nat} {v : Int} (h : In2 j e v) : In2 (j + k) (e + k) (v * ((2 ^ k : Nat) : Int)) := by
  refine ⟨?_, ?_⟩
  · unfold Dv
    rw [Nat.pow_add, Int.natCast_mul]
    exact Int.mul_dvd_mul h.dv (Int.dvd_refl _)
  · rw [Int.natAbs_mul, Int.natAbs_natCast, Nat.pow_add]
    exact Nat.mul_le_mul_right _ h.le
theorem P3.In.two {j e : Nat} {p : P3} (h : p.In j e) (k : Nat) : (p.up k).In (j + k) (e + k) := ⟨In2.two h.x, In2.two h.y, In2.two h.z⟩
theorem natAbs_times {e : Nat} (v : Int) (k : Nat) (h : v.natAbs ≤ 2 ^ e) : (v * ((2 ^ k : Nat) : Int)).natAbs ≤ 2 ^ (e + k) := by rw [Int.natAbs_mul, Int.natAbs_natCast]; exact mul_pow_le h (Nat.le_refl _) rfl
theorem dbl_val {x : Nat} {v : Int} (h : Fv (val .f32 x) v) (hi : v.natAbs ≤ 2 ^ 151) : Fv (val .f32 (canB (bin .mul .f32 (val .f32 x) (val .f32 1073741824)))) (v * ((2 ^ 1 : Nat) : Int)) := by
  rw [vtwo]
  have t1 := natAbs_times v (149 + 1) hi
  have t2 := pow_at_ge (e := 151 + (149 + 1)) (e' := 152 + 149) rfl t1
  exact canB_val (Fv.times h Fv_two (e := 152) t2 (by omega) (by omega))
theorem Places.dbl {Q : List S59} {L : List P3} (h : Places 0 Q L) : Places 1 (Q.map (scaleV 1073741824)) (L.map (P3.up 1)) := by
  refine ⟨by rw [List.length_map, List.length_map, h.len], fun i hi hi' => ?_⟩
  rw [List.getElem_map, List.getElem_map]
  rw [List.length_map] at hi hi'
  obtain ⟨⟨a, b, c⟩, hin⟩ := h.at_ i hi hi'
  exact ⟨⟨dbl_val a hin.x.le, dbl_val b hin.y.le, dbl_val c hin.z.le⟩, P3.In.two hin 1⟩
theorem Places.both {k : Nat} {Q : List S59} {L : List P3} (h : Places k Q L) : Places k (Q ++ Q) (L ++ L) := by
  refine ⟨by rw [List.length_append, List.length_append, h.len], fun i hi hi' => ?_⟩
  rcases Nat.lt_or_ge i Q.length with hc | hc
  · rw [List.getElem_append_left hc, List.getElem_append_left (by rw [← h.len]; exact hc)]
    exact h.at_ i hc (by rw [← h.len]; exact hc)
  · rw [List.getElem_append_right hc, List.getElem_append_right (by rw [← h.len]; exact hc)]
    rw [List.length_append] at hi
    have := h.at_ (i - Q.length) (by omega) (by rw [← h.len]; omega)
    simpa only [h.len] using this
theorem areas {Q : List S59} {L : List P3} (h : Places 0 Q L) {T : List (List Int)} (hv : validB Q.length T = true) (ht : T.length ≤ 32) :
    ∃ A S : Int, 0 ≤ A ∧ A.natAbs ≤ 2 ^ 197 ∧ Fv (areaV Q T T.length) A ∧ Fv (areaV Q (T.map turn3) T.length) A ∧ Fv (areaV (Q.map (scaleV 1073741824)) T T.length) (A * ((2 ^ 2 : Nat) : Int)) ∧
      Fv (areaV (Q ++ Q) (bothT Q.length T) (T.length + T.length)) S ∧ 16384 * (S - 2 * A).natAbs ≤ A.natAbs := by
  obtain ⟨h1, h2, h3⟩ := validB_iff.1 hv
  have hb := term_bd (k := 0) (by omega) h.all T
  have hval := area_val (k := 0) (by omega) h h3
  have hA := hval T.length (Nat.le_refl _) (by omega)
  obtain ⟨⟨p1, p2⟩, p3⟩ := sum_bd _ hb T.length
  have hturn := (validB_iff.1 (turn_valid hv)).2.2
  have hB := area_val (k := 0) (by omega) h hturn T.length (by rw [List.length_map]; omega) (by omega)
  rw [sum_congr _ (termI L T) T.length (fun i hi => term_turn L h3 i hi) T.length (Nat.le_refl _)] at hB
  have hC := area_val (k := 1) (by omega) h.dbl (T := T) (by rw [List.length_map]; exact h3) T.length (Nat.le_refl _) (by omega)
  rw [sum_quad (termI L T) _ hb (term_dbl h.all T) T.length] at hC
  have hlen := h.len
  have hD := area_val (k := 0) (by omega) h.both (T := bothT Q.length T) (by
    have h3' := h3
    rw [both_eq, List.all_append, Bool.and_eq_true, List.length_append]
    refine ⟨List.all_eq_true.2 fun t ht => wide_ok (List.all_eq_true.1 h3 t ht), ?_⟩
    rw [List.all_map, List.all_map]
    exact List.all_eq_true.2 fun t ht => shift_ok h1 (turn3_ok (List.all_eq_true.1 h3 t ht))) (T.length + T.length) (by rw [both_eq]; simp) (by omega)
  refine ⟨_, _, p1, Nat.le_trans p3 (pow_mono2 (by omega)), hA, hB, hC, hD, ?_⟩
  rw [hlen] at h3 h1 ⊢
  exact sum_two (termI L T) _ T.length (by omega) (fun i => (hb i).1.1) (fun i hi => ⟨_, hval i hi (by omega)⟩) (fun i hi => (term_both h3 h1 i hi).1) (fun i hi => (term_both h3 h1 i hi).2)
/-- The normals of a triangle and of the same turned over. -/
theorem normals {Q : List S59} {L : List P3} (h : Places 0 Q L) {T : List (List Int)} (hv : validB Q.length T = true) (i : Nat) (hi : i < T.length) :
    ∃ c : P3, Fv (crossAt Q T (i : Int)).1 c.x ∧ Fv (crossAt Q T (i : Int)).2.1 c.y ∧ Fv (crossAt Q T (i : Int)).2.2 c.z ∧
      Fv (crossAt Q (T.map turn3) (i : Int)).1 (-c.x) ∧ Fv (crossAt Q (T.map turn3) (i : Int)).2.1 (-c.y) ∧ Fv (crossAt Q (T.map turn3) (i : Int)).2.2 (-c.z) := by
  obtain ⟨h1, h2, h3⟩ := validB_iff.1 hv
  obtain ⟨a, b, c⟩ := crossAt_val (k := 0) (by omega) h h3 hi
  have hturn := (validB_iff.1 (turn_valid hv)).2.2
  obtain ⟨a', b', c'⟩ := crossAt_val (k := 0) (by omega) h hturn (i := i) (by rw [List.length_map]; exact hi)
  have ht : triB Q.length (T.getD i []) = true := by rw [List.getD_eq_getElem?_getD, List.getElem?_eq_getElem hi]; exact List.all_eq_true.1 h3 _ (List.getElem_mem hi)
  rw [turn_at T i hi, tri_turn L ht] at a' b' c'
  exact ⟨_, a, b, c, a', b', c'⟩
end Go.Proofs.Ytnibobbfepdeiaa
namespace Go.Proofs.Ytnibobbfepdeiaa.Fl
open Ieee
set_option linter.unusedVariables false

theorem key_iv {f : Format} {x y : Nat} (h : iv f x = iv f y) : key f x = key f y := by
  have hm : mg f (rung f x) = mg f (rung f y) := by
    have h1 : (iv f x).natAbs = mg f (rung f x) := by unfold iv; rw [sg_natAbs]
    have h2 : (iv f y).natAbs = mg f (rung f y) := by unfold iv; rw [sg_natAbs]
    rw [← h1, ← h2, h]
  have hr : rung f x = rung f y := mg_inj f hm
  unfold key
  rw [hr]
  by_cases h0 : rung f y = 0
  · rw [h0]; simp
  · have hp := mg_pos f (Nat.pos_of_ne_zero h0)
    unfold iv sg at h
    rw [hr] at h
    cases hx : sgn f x <;> cases hy : sgn f y <;> rw [hx, hy] at h <;> simp at h ⊢ <;> omega
theorem order_same {x y : Nat} {v : Int} (hx : Fv (some x) v) (hy : Fv (some y) v) : single.order x y = some .eq := by
  obtain ⟨x', ex, fx, vx⟩ := hx
  cases ex
  obtain ⟨y', ey, fy, vy⟩ := hy
  cases ey
  have ho := order_key .f32 (x := x) (y := y) (Nat.le_of_lt fx) (Nat.le_of_lt fy)
  have hk : key single x = key single y := key_iv (vx.trans vy.symm)
  refine ho.trans ?_
  rw [show key FloatKind.f32.format x = key FloatKind.f32.format y from hk]
  rw [Int.compare_eq_eq.2 rfl]
end Go.Proofs.Ytnibobbfepdeiaa.Fl
namespace Go.Proofs.Ytnibobbfepdeiaa
open Fl Go.RowKit Go.Proofs.YtnibobbfepdeiaaW.PrintWords Go.Proofs.YtnibobbfepdeiaaW.PrintLast Go.Proofs.YtnibobbfepdeiaaW.PrintMore Go.Proofs.Ytnibobbfepdeiaa.PMesh Msh Ieee
set_option linter.unusedVariables false

theorem Fv_some {X : Option Nat} {v : Int} (h : Fv X v) : ∃ b, X = some b ∧ Fv (some b) v ∧ val .f32 b = some b := by
  obtain ⟨b, rfl, hb, hv⟩ := h
  have h1 : Fv (some b) v := ⟨b, rfl, hb, hv⟩
  obtain ⟨b', e, _⟩ := canB_val h1
  have e' : val .f32 b = some b' := e
  exact ⟨b, rfl, h1, by rw [e', val_some e']⟩
theorem Fv_val {b : Nat} {v : Int} (h : Fv (val .f32 b) v) : val .f32 b = some b := by
  obtain ⟨b', e, _⟩ := h
  rw [e, val_some e]
theorem Fv_sim {a b : Nat} {v : Int} (hb : Fv (val .f32 b) v) (hs : simF a b = true) : a = b := by
  have h := Fv_val hb
  have hv : val .f32 a = some b := (simF_iff.1 hs).2.2.trans h
  exact (val_some hv).symm
theorem places_sim {k : Nat} {Q R : List S59} {L : List P3} (h : Places k Q L) (hs : simP R Q) : R = Q := by
  refine List.ext_getElem hs.1 fun i hi hi' => ?_
  obtain ⟨⟨h0, h1, h2⟩, _⟩ := h.at_ i hi' (by rw [← h.len]; exact hi')
  have hv := hs.2 i hi hi'
  generalize R[i] = x at *
  generalize Q[i] = y at *
  cases x; cases y
  have e0 := Fv_sim h0 hv.1
  have e1 := Fv_sim h1 hv.2.1
  have e2 := Fv_sim h2 hv.2.2
  simp only at e0 e1 e2
  rw [e0, e1, e2]
theorem near_ok {Q P : List S59} (h : NearP Q P Q.length) : ∀ x ∈ P, okV x := by
  intro x hx
  obtain ⟨i, hi, rfl⟩ := List.getElem_of_mem hx
  obtain ⟨a, b, c, _, _, _, h0, h1, h2⟩ := h.2.1 i hi (by rw [← h.1]; exact hi) (by rw [← h.1]; exact hi)
  exact ⟨(simF_iff.1 h0).1, (simF_iff.1 h1).1, (simF_iff.1 h2).1⟩
theorem val_fin64 {b : Nat} (h : rung double b < double.infRung) : val .f64 b = some b := by
  unfold val
  rw [isNaN_read, if_neg]
  have h' : b % FloatKind.f64.format.signWeight < FloatKind.f64.format.infRung := h
  simp only [decide_eq_true_eq]
  omega
theorem not_gt {x y : Nat} (hx : rung double x < double.infRung) (hy : rung double y < double.infRung) (h : key double x ≤ key double y) : (FloatKind.f64.format.order x y == some .gt) = false := by
  have ho := order_key .f64 (x := x) (y := y) (Nat.le_of_lt hx) (Nat.le_of_lt hy)
  rw [ho]
  have h' : compare (key FloatKind.f64.format x) (key FloatKind.f64.format y) ≠ .gt := fun e => by
    have := Int.compare_eq_gt.1 e
    have h2 : key FloatKind.f64.format x ≤ key FloatKind.f64.format y := h
    omega
  cases hc : compare (key FloatKind.f64.format x) (key FloatKind.f64.format y)
  · rfl
  · rfl
  · exact absurd hc h'

/-- What the law's second condition compares. -/
structure GapOk (a s : Nat) (ws wa d g1 g2 o t : Nat) : Prop where
  h_ws : wid (val .f32 s) = some ws
  h_wa : wid (val .f32 a) = some wa
  h_d : bin .mul .f64 (val .f64 4611686018427387904) (val .f64 wa) = some d
  h_g1 : bin .sub .f64 (val .f64 ws) (val .f64 d) = some g1
  h_g2 : bin .sub .f64 (val .f64 d) (val .f64 ws) = some g2
  h_o : bin .add .f64 (val .f64 4607182418800017408) (val .f64 wa) = some o
  h_t : bin .mul .f64 (val .f64 4562254508917369340) (val .f64 o) = some t
  f1 : rung double g1 < double.infRung
  f2 : rung double g2 < double.infRung
  c1 : (FloatKind.f64.format.order g1 t == some .gt) = false
  c2 : (FloatKind.f64.format.order g2 t == some .gt) = false
theorem gap_all {a s : Nat} {A S : Int} (ha : Fv (some a) A) (hs : Fv (some s) S) (hva : val .f32 a = some a) (hvs : val .f32 s = some s) (hA : 0 ≤ A) (hn : 16384 * (S - 2 * A).natAbs ≤ A.natAbs) : ∃ ws wa d g1 g2 o t, GapOk a s ws wa d g1 g2 o t := by
  obtain ⟨d, g1, g2, o, t, e1, e2, e3, e4, e5, f1, f2, f3, k1, k2⟩ := gap_ok ha hs hA hn
  have fa : rung double (W a) < double.infRung := by obtain ⟨a', ea, fa, _⟩ := ha; cases ea; exact (W_fin fa).2.2
  have fs : rung double (W s) < double.infRung := by obtain ⟨s', es, fs, _⟩ := hs; cases es; exact (W_fin fs).2.2
  have v1 : val .f64 (W a) = some (W a) := val_fin64 fa
  have v2 : val .f64 (W s) = some (W s) := val_fin64 fs
  have c1 : val .f64 4611686018427387904 = some TWO64 := by decide +kernel
  have c2 : val .f64 4607182418800017408 = some ONE64 := by decide +kernel
  have c3 : val .f64 4562254508917369340 = some MIL64 := by decide +kernel
  have vd : val .f64 d = some d := floatBits_val (op := .mul) (x := TWO64) (y := W a) e1
  have vo : val .f64 o = some o := floatBits_val (op := .add) (x := ONE64) (y := W a) e4
  refine ⟨W s, W a, d, g1, g2, o, t, ⟨by rw [hvs]; rfl, by rw [hva]; rfl, by rw [c1, v1]; exact e1, by rw [v2, vd]; exact e2, by rw [v2, vd]; exact e3, by rw [c2, v1]; exact e4, by rw [c3, vo]; exact e5, f1, f2, not_gt f1 f3 k1, not_gt f2 f3 k2⟩⟩

theorem neg_rung (b : Nat) : rung single (Op.negFloat .f32 b) = rung single b := by
  show (b ^^^ 2 ^ 31) % 2 ^ 31 = b % 2 ^ 31
  rw [Nat.xor_mod_two_pow]
  simp
theorem neg_sgn (b : Nat) : sgn single (Op.negFloat .f32 b) = !sgn single b := by
  show ((b ^^^ 2 ^ 31) / 2 ^ 31 % 2 == 1) = !(b / 2 ^ 31 % 2 == 1)
  rw [Nat.xor_div_two_pow, show 2 ^ 31 / 2 ^ 31 = 1 from rfl]
  have h := Nat.xor_mod_two_pow (a := b / 2 ^ 31) (b := 1) (n := 1)
  rw [show (2 : Nat) ^ 1 = 2 from rfl] at h
  rw [h]
  rcases Nat.mod_two_eq_zero_or_one (b / 2 ^ 31) with e | e <;> rw [e] <;> rfl
theorem Fv_neg {b : Nat} {v : Int} (h : Fv (some b) v) : Fv (some (Op.negFloat .f32 b)) (-v) := by
  obtain ⟨b', e, hf, hv⟩ := h
  cases e
  refine ⟨_, rfl, by rw [neg_rung]; exact hf, ?_⟩
  unfold iv sg at hv ⊢
  rw [neg_rung, neg_sgn]
  cases hs : sgn single b <;> rw [hs] at hv <;> simp at hv ⊢ <;> omega
theorem order_neg {x x' : Nat} {v : Int} (h : Fv (some x) v) (h' : Fv (some x') (-v)) : ∃ n, Op.negFloat .f32 x' = n ∧ FloatKind.f32.format.order x n = some .eq := ⟨_, rfl, order_same h (by have := Fv_neg h'; rwa [Int.neg_neg] at this)⟩
/-- All that the law compares. -/
structure TurnOk (P : List S59) (T U : List (List Int)) (P2 : List S59) (PJ : List S59) (T3 : List (List Int)) (a b g s r : Nat) : Prop where
  valid : validB P.length T = true
  pl : P.length ≤ 32
  tl : T.length ≤ 32
  ok : ∀ x ∈ P, okV x
  ul : U.length = T.length
  turn1 : turnR P T = (P, U, true)
  turn2 : turnR P U = (P, T, true)
  scale : scaleR P T 1073741824 = (P2, T, true)
  p2 : ∀ R, simP R P2 → R = P2
  join : joinR P T P U = (PJ, T3, true)
  area1 : areaR P T = (some a, true)
  area2 : areaR P U = (some b, true)
  area3 : areaR P2 T = (some g, true)
  area4 : areaR PJ T3 = (some s, true)
  same : FloatKind.f32.format.order b a = some .eq
  times : bin .mul .f32 (val .f32 1082130432) (val .f32 a) = some r
  four : FloatKind.f32.format.order g r = some .eq
  eq : G7.samePB P P = true
theorem turned_plain {Q P : List S59} {T : List (List Int)} (hf : formB Q T = true) (hN : NearP Q P Q.length) :
    ∃ U P2 PJ T3 a b g s r, TurnOk P T U P2 PJ T3 a b g s r ∧ (∃ ws wa d g1 g2 o t, GapOk a s ws wa d g1 g2 o t) ∧
      ∀ i : Nat, i < T.length → ∃ (x y z x' y' z' : Nat) (c : P3), normR P T (i : Int) = ((some x, some y, some z), true) ∧ normR P U (i : Int) = ((some x', some y', some z'), true) ∧ Fv (some x) c.x ∧ Fv (some y) c.y ∧ Fv (some z) c.z ∧ Fv (some x') (-c.x) ∧ Fv (some y') (-c.y) ∧ Fv (some z') (-c.z) := by
  obtain ⟨h1, h2, h3, h4⟩ := formB_iff hf
  obtain ⟨L, hL⟩ := near_places h1 hN
  have hv : validB P.length T = true := by rw [hN.1]; exact h2
  obtain ⟨v1, v2, v3⟩ := validB_iff.1 hv
  have hvU := turn_valid hv
  obtain ⟨A, S, hA0, hA1, fa, fb, fg, fs, hg⟩ := areas hL hv h3
  obtain ⟨a, ea, fa, va⟩ := Fv_some fa
  obtain ⟨b, eb, fb, vb⟩ := Fv_some fb
  obtain ⟨g, eg, fg, vg⟩ := Fv_some fg
  obtain ⟨s, es, fs, vs⟩ := Fv_some fs
  have t1 := natAbs_times A (149 + 2) hA1
  have t2 := pow_at_ge (e := 197 + (149 + 2)) (e' := 199 + 149) rfl t1
  have fr := Fv.times' fa Fv_four (e := 199) t2 (by omega) (by omega)
  obtain ⟨r, er, fr, vr⟩ := Fv_some fr
  have v4 : val .f32 1082130432 = some 1082130432 := by decide +kernel
  have hvB := both_valid hv (by rw [hN.1]; omega) (by omega)
  have hlP : P.length ≤ 32 := by rw [hN.1]; exact h4
  refine ⟨T.map turn3, P.map (scaleV 1073741824), P ++ P, bothT P.length T, a, b, g, s, r, ⟨hv, hlP, h3, near_ok hN, List.length_map _, ?_, ?_, ?_, fun R hR => places_sim hL.dbl hR, ?_, ?_, ?_, ?_, ?_, order_same fb fa, ?_, order_same fg fr, ?_⟩, gap_all fa fs va vs hA0 hg, ?_⟩
  · unfold turnR; rw [if_pos hv]
  · unfold turnR; rw [if_pos hvU, turn_twice v3]
  · unfold scaleR; rw [if_pos hv]
  · unfold joinR joinV
    rw [if_pos ⟨hv, hvU⟩, List.length_map, List.length_append]
    show (if validB (P.length + P.length) (bothT P.length T) = true then _ else _) = _
    rw [if_pos hvB]
    rfl
  · unfold areaR; rw [if_pos hv, ea]
  · unfold areaR; rw [if_pos hvU, List.length_map, eb]
  · unfold areaR; rw [List.length_map, if_pos hv, eg]
  · unfold areaR; rw [List.length_append, if_pos hvB, show (bothT P.length T).length = T.length + T.length by rw [both_eq]; simp, es]
  · rw [v4, va]; exact er
  · refine G7.samePB_all rfl fun j hj _ => ?_
    show sameVecV _ _ _ _ _ _ = true
    unfold sameVecV sameV
    simp
  · intro i hi
    obtain ⟨c, n1, n2, n3, m1, m2, m3⟩ := normals hL hv i hi
    obtain ⟨x, ex, fx, _⟩ := Fv_some n1
    obtain ⟨y, ey, fy, _⟩ := Fv_some n2
    obtain ⟨z, ez, fz, _⟩ := Fv_some n3
    obtain ⟨x', ex', fx', _⟩ := Fv_some m1
    obtain ⟨y', ey', fy', _⟩ := Fv_some m2
    obtain ⟨z', ez', fz', _⟩ := Fv_some m3
    have k1 : (validB P.length T && inB T.length (i : Int)) = true := by rw [hv]; exact decide_eq_true (by omega)
    have k2 : (validB P.length (T.map turn3) && inB (T.map turn3).length (i : Int)) = true := by rw [hvU]; exact decide_eq_true (by rw [List.length_map]; omega)
    refine ⟨x, y, z, x', y', z', c, ?_, ?_, fx, fy, fz, fx', fy', fz'⟩
    · have e : crossAt P T (i : Int) = (some x, some y, some z) := by rw [← ex, ← ey, ← ez]
      unfold normR; rw [if_pos k1, ← e]; rfl
    · have e : crossAt P (T.map turn3) (i : Int) = (some x', some y', some z') := by rw [← ex', ← ey', ← ez']
      unfold normR; rw [if_pos k2, ← e]; rfl
end Go.Proofs.Ytnibobbfepdeiaa
namespace Go.Proofs.Ytnibobbfepdeiaa
open Fl Go.RowKit Go.Proofs.YtnibobbfepdeiaaW.PrintWords Go.Proofs.YtnibobbfepdeiaaW.PrintLast Go.Proofs.YtnibobbfepdeiaaW.PrintMore Go.Proofs.Ytnibobbfepdeiaa.PMesh Msh
set_option linter.unusedVariables false
set_option linter.unusedSimpArgs false

/-- A mesh is handed back that can be read. -/
def AnsQ (w : World) (P : List S59) (T : List (List Int)) (E : Ending) (w' : World) : Prop := ∃ A c B e, E = .returned (.agg #[.slice A P.length c, .slice B T.length e]) ∧ RefM w' w.heap.size w'.heap.size (.slice A P.length c) (.slice B T.length e) P T ∧ Below w.heap.size w w'

theorem half_sim {X Y : S59} {a b c p q r : Nat} (ha : FR .f32 a (bin .add .f32 (val .f32 X.f0) (val .f32 Y.f0))) (hb : FR .f32 b (bin .add .f32 (val .f32 X.f1) (val .f32 Y.f1))) (hc : FR .f32 c (bin .add .f32 (val .f32 X.f2) (val .f32 Y.f2)))
    (hp : FR .f32 p (bin .mul .f32 (val .f32 a) (val .f32 1056964608))) (hq : FR .f32 q (bin .mul .f32 (val .f32 b) (val .f32 1056964608))) (hr : FR .f32 r (bin .mul .f32 (val .f32 c) (val .f32 1056964608))) : simV ⟨p, q, r⟩ (halfV X Y) := by
  rw [(simF_iff.1 (canB_sim ha)).2.2] at hp
  rw [(simF_iff.1 (canB_sim hb)).2.2] at hq
  rw [(simF_iff.1 (canB_sim hc)).2.2] at hr
  exact ⟨canB_sim hp, canB_sim hq, canB_sim hr⟩
theorem mid_sim {X Y : S59} {p q r s t a b c : Nat} (h : simV ⟨p, q, r⟩ (halfV X Y)) (hs : FR .f32 s (longV (val .f32 p) (val .f32 q) (val .f32 r))) (ht : FR .f32 t (bin .quo .f32 (val .f32 1073741824) (val .f32 s)))
    (ha : FR .f32 a (bin .mul .f32 (val .f32 p) (val .f32 t))) (hb : FR .f32 b (bin .mul .f32 (val .f32 q) (val .f32 t))) (hc : FR .f32 c (bin .mul .f32 (val .f32 r) (val .f32 t))) : simV ⟨a, b, c⟩ (midV X Y) := by
  obtain ⟨h0, h1, h2⟩ := h
  have e0 := (simF_iff.1 h0).2.2
  have e1 := (simF_iff.1 h1).2.2
  have e2 := (simF_iff.1 h2).2.2
  simp only at e0 e1 e2
  rw [hs.val] at ht
  rw [e0, e1, e2] at ht
  have et := (simF_iff.1 (canB_sim ht)).2.2
  rw [e0, et] at ha
  rw [e1, et] at hb
  rw [e2, et] at hc
  exact ⟨canB_sim ha, canB_sim hb, canB_sim hc⟩
def mE (i : Nat) : List S59 := octP ++ (octE.take i).map midE
theorem octE_at (i : Nat) (hi : i < 12) : ∃ a b : Int, rd_L3 octE (i : Int) = [a, b] ∧ 0 ≤ a ∧ a < 6 ∧ 0 ≤ b ∧ b < 6 ∧ mE (i + 1) = mE i ++ [midV (rd_T59 octP a) (rd_T59 octP b)] := by
  have hs : mE (i + 1) = mE i ++ [midE (octE.getD i [])] := by
    unfold mE
    rw [List.take_add_one, List.map_append, List.append_assoc, List.getD_eq_getElem?_getD, List.getElem?_eq_getElem (show i < octE.length from hi)]
    rfl
  rw [hs]
  match i, hi with
  | 0, _ => exact ⟨0, 2, rfl, by decide, by decide, by decide, by decide, rfl⟩
  | 1, _ => exact ⟨0, 3, rfl, by decide, by decide, by decide, by decide, rfl⟩
  | 2, _ => exact ⟨0, 4, rfl, by decide, by decide, by decide, by decide, rfl⟩
  | 3, _ => exact ⟨0, 5, rfl, by decide, by decide, by decide, by decide, rfl⟩
  | 4, _ => exact ⟨1, 2, rfl, by decide, by decide, by decide, by decide, rfl⟩
  | 5, _ => exact ⟨1, 3, rfl, by decide, by decide, by decide, by decide, rfl⟩
  | 6, _ => exact ⟨1, 4, rfl, by decide, by decide, by decide, by decide, rfl⟩
  | 7, _ => exact ⟨1, 5, rfl, by decide, by decide, by decide, by decide, rfl⟩
  | 8, _ => exact ⟨2, 4, rfl, by decide, by decide, by decide, by decide, rfl⟩
  | 9, _ => exact ⟨2, 5, rfl, by decide, by decide, by decide, by decide, rfl⟩
  | 10, _ => exact ⟨3, 4, rfl, by decide, by decide, by decide, by decide, rfl⟩
  | 11, _ => exact ⟨3, 5, rfl, by decide, by decide, by decide, by decide, rfl⟩
  | n + 12, h => omega
theorem mE_zero : mE 0 = octP := by simp [mE]
theorem mE_all : mE 12 = ballP := rfl
def fT (i : Nat) : List (List Int) := (octT.take i).flatMap four
theorem fT_all : fT 8 = ballT := rfl
theorem octT_at (i : Nat) (hi : i < 8) : ∃ t0 t1 t2 d e f : Int, rd_L3 octT (i : Int) = [t0, t1, t2] ∧ spec_l02Index.f 40 octE t0 t1 = some d ∧ spec_l02Index.f 40 octE t1 t2 = some e ∧ spec_l02Index.f 40 octE t2 t0 = some f ∧ 0 ≤ d ∧ d < 12 ∧ 0 ≤ e ∧ e < 12 ∧ 0 ≤ f ∧ f < 12 ∧ (fT i).length ≤ 32 ∧
    fT (i + 1) = fT i ++ [[t0, 6 + d, 6 + f], [6 + d, t1, 6 + e], [6 + f, 6 + e, t2], [6 + d, 6 + e, 6 + f]] := by
  match i, hi with
  | 0, _ => exact ⟨0, 2, 4, 0, 8, 2, rfl, by decide +kernel, by decide +kernel, by decide +kernel, by decide, by decide, by decide, by decide, by decide, by decide, by decide +kernel, by decide +kernel⟩
  | 1, _ => exact ⟨2, 1, 4, 4, 6, 8, rfl, by decide +kernel, by decide +kernel, by decide +kernel, by decide, by decide, by decide, by decide, by decide, by decide, by decide +kernel, by decide +kernel⟩
  | 2, _ => exact ⟨1, 3, 4, 5, 10, 6, rfl, by decide +kernel, by decide +kernel, by decide +kernel, by decide, by decide, by decide, by decide, by decide, by decide, by decide +kernel, by decide +kernel⟩
  | 3, _ => exact ⟨3, 0, 4, 1, 2, 10, rfl, by decide +kernel, by decide +kernel, by decide +kernel, by decide, by decide, by decide, by decide, by decide, by decide, by decide +kernel, by decide +kernel⟩
  | 4, _ => exact ⟨2, 0, 5, 0, 3, 9, rfl, by decide +kernel, by decide +kernel, by decide +kernel, by decide, by decide, by decide, by decide, by decide, by decide, by decide +kernel, by decide +kernel⟩
  | 5, _ => exact ⟨1, 2, 5, 4, 9, 7, rfl, by decide +kernel, by decide +kernel, by decide +kernel, by decide, by decide, by decide, by decide, by decide, by decide, by decide +kernel, by decide +kernel⟩
  | 6, _ => exact ⟨3, 1, 5, 5, 7, 11, rfl, by decide +kernel, by decide +kernel, by decide +kernel, by decide, by decide, by decide, by decide, by decide, by decide, by decide +kernel, by decide +kernel⟩
  | 7, _ => exact ⟨0, 3, 5, 1, 11, 3, rfl, by decide +kernel, by decide +kernel, by decide +kernel, by decide, by decide, by decide, by decide, by decide, by decide, by decide +kernel, by decide +kernel⟩
  | n + 8, h => omega
/-- Four cells read as four rows. -/
theorem reads4 {α : Type} {R : α → List Value → Prop} {W : World} {g : Nat} {u1 u2 u3 u4 : Value} {t : TypeId} {x1 x2 x3 x4 : α} (hb : W.heap[g]? = some (.cells #[u1, u2, u3, u4] t (0, 0))) (h1 : R x1 [u1]) (h2 : R x2 [u2]) (h3 : R x3 [u3]) (h4 : R x4 [u4]) :
    ReadsRow R 1 W (some ⟨g, 0, none⟩) 4 [x1, x2, x3, x4] := by
  refine ⟨rfl, by decide, fun _ => ⟨_, rfl, ?_⟩⟩
  have one : ∀ (j : Nat) (u : Value), #[u1, u2, u3, u4][j]? = some u → ∀ i v, [u][i]? = some v → W.cell? (Addr.add ⟨g, 0, none⟩ (j * 1 + i)) = some v := by
    intro j u hu i v hv
    cases i with
    | zero =>
      have e : u = v := by simpa using hv
      subst e
      rw [add_at]
      have := (blk_cell hb j).trans hu
      simpa using this
    | succ i => simp at hv
  intro j p hj
  match j, hj with
  | 0, hj => obtain rfl : x1 = p := by simpa using hj
             exact ⟨[u1], rfl, h1, one 0 u1 rfl⟩
  | 1, hj => obtain rfl : x2 = p := by simpa using hj
             exact ⟨[u2], rfl, h2, one 1 u2 rfl⟩
  | 2, hj => obtain rfl : x3 = p := by simpa using hj
             exact ⟨[u3], rfl, h3, one 2 u3 rfl⟩
  | 3, hj => obtain rfl : x4 = p := by simpa using hj
             exact ⟨[u4], rfl, h4, one 3 u4 rfl⟩
  | n + 4, hj => simp at hj
end Go.Proofs.Ytnibobbfepdeiaa
namespace Go.Proofs.Ytnibobbfepdeiaa
open Fl Go.RowKit Go.Proofs.YtnibobbfepdeiaaW.PrintWords Go.Proofs.YtnibobbfepdeiaaW.PrintLast Go.Proofs.YtnibobbfepdeiaaW.PrintMore Go.Proofs.Ytnibobbfepdeiaa.PMesh
set_option linter.unusedVariables false

set_option maxHeartbeats 4000000 in
set_option maxRecDepth 100000 in
theorem spec_l02OwnV (g : Nat) (A : Option Addr) (c : Nat) (Q : List S59) (B : Option Addr) (e : Nat) (T : List (List Int)) (w : World) (hg : w.heap[g]? = some (.cells #[.slice A Q.length c, .slice B T.length e] 30 (0, 0))) (hQ : Kd.C k59 w A Q.length Q) (hT : Kd.C (Kd.slice 2 (Kd.int .i64)) w B T.length T) (hq : Q.length ≤ 1048576) (ht : T.length ≤ 1048576) (htl : ∀ t ∈ T, t.length ≤ 1048576) :
    Calls Try.prog 65 #[.pointer (some ⟨g, 0, none⟩)] w fun E w' => ∃ v0 v1 : Value, E = .returned (.agg #[v0, v1]) ∧ Kd.R k59 59 w' w.heap.size (fun _ => True) v0 Q ∧ Kd.S (Kd.slice 2 (Kd.int .i64)) 34 w' w.heap.size (fun _ => True) v1 T ∧ Below w.heap.size w w' := by
  have gc0 : w.cell? ⟨g, 0, none⟩ = some (.slice A Q.length c) := (blk_cell hg 0).trans rfl
  have gc1 : w.cell? ⟨g, 1, none⟩ = some (.slice B T.length e) := (blk_cell hg 1).trans rfl
  have HQ := Lib.hid hQ
  have HB := Lib.hid (Below.refl w.heap.size w)
  obtain ⟨W1, hW1⟩ : ∃ W, W = w.alloc (.cells #[.slice none 0 0, .slice none 0 0] 30) := ⟨_, rfl⟩
  clear hg
  have hA0 := heap_alloc_new w (.cells #[.slice none 0 0, .slice none 0 0] 30)
  have HB1 := Lib.hid (below_alloc (Below.refl w.heap.size w) (.cells #[.slice none 0 0, .slice none 0 0] 30))
  have HA0 : Hid ((w.alloc (.cells #[.slice none 0 0, .slice none 0 0] 30)).heap[w.heap.size]? = some (.cells #[.slice none 0 0, .slice none 0 0] 30 (0, 0))) := Lib.hid hA0
  clear hW1 hA0
  go_enter Try.func65, Try.ntmps65
  go_wp2_with (first
    | ((with_reducible refine gate_dst (N := 5) rfl ?_); refine Kd.R_lit k59 _ 59 ?hg (N := 5) ?hd (xs := ([] : List S59)) (inner := []) (ok := fun _ => True) (okp := fun _ => True) ?hr ?hp (fun _ hk => hk) trivial (Below.refl _ _) (Nat.le_refl _) (by simp) ?_; (case hd => rfl); (case hg => rfl); (case hr => first | (go_simp; done) | (go_simp; rfl)); (case hp => exact (Reps.none _ _)); intro v2 w2 ho hb hg_ hnew_; clear hg_ hnew_; have B2 := Lib.hid (below_step HB1.out hb); have C2 := Lib.hid (blk_below HA0.out hb); have O2 := Lib.hid (Kd.R_lower ho (below_size HB1.out)); have gd0 := G9.old_cell9 B2.out gc0; clear ho hb)
    | ((with_reducible refine gate_builtin (b := .append) (xs := #[.tmp 5, .tmp 9]) rfl ?_); at_builtin; refine Kd.R_append_rows k59 (w0 := w) w.heap.size rfl (.tmp 5) (.tmp 9) 28 59 (.agg #[(.float .f32 0), (.float .f32 0), (.float .f32 0)]) 12 rfl Try.underlying28 info59 rfl (by decide) (by omega) v2 [] Q _ _ _ (fun _ => True) (fun _ => False) rfl rfl ?aO ?aR (fun _ _ h => h) (fun _ h => h.elim) ?aF ?aB ?aS ?aL ?_; (case aR => exact Kd.C_below HQ.out B2.out); (case aB => exact B2.out); (case aF => exact (fun _ _ => trivial)); (case aO => exact O2.out); (case aS => exact below_size B2.out); (case aL => simp only [List.length_nil]; omega); intro v3 w3 ho hb hg hat; rw [List.nil_append] at ho; have C3 := Lib.hid (blk_grown C2.out hg (Kd.R_ne O2.out C2.out (by decide))); obtain ⟨Aq, cq, rfl⟩ := Kd.R_slice ho; have O3 := Lib.hid ho; have B3 := Lib.hid hb; clear ho hb hg hat gd0)
    | ((with_reducible refine gate_dst (N := 11) rfl ?_); refine Kd.S_lit (Kd.slice 2 (Kd.int .i64)) _ 34 ?hg (N := 11) ?hd (xs := ([] : List (List Int))) (inner := []) (ok := fun _ => True) (okp := fun _ => True) ?hr ?hp (fun _ hk => hk) trivial (Below.refl _ _) (Nat.le_refl _) (by simp) ?_; (case hd => rfl); (case hg => rfl); (case hr => first | (go_simp; done) | (go_simp; rfl)); (case hp => exact (Reps.none _ _)); intro v4 w4 ho hb hg_ hnew_; clear hg_ hnew_; obtain ⟨At, ct, rfl⟩ := Kd.S_slice ho; have B4 := Lib.hid (below_step B3.out hb); have C4 := Lib.hid (blk_below C3.out hb); have O4 := Lib.hid (Kd.R_below O3.out hb); have T4 := Lib.hid (Kd.S_lower ho (below_size B3.out)); clear ho hb)
    | fail)
  have hge : w.heap.size < w4.heap.size := blk_lt C4.out
  obtain ⟨w5, hw5⟩ : ∃ W, W = w4.alloc (.cells #[.slice Aq Q.length cq, .slice At 0 ct] 30) := ⟨_, rfl⟩
  have b5 : Below w.heap.size w w5 := by rw [hw5]; exact below_alloc B4.out _
  have c25 : w5.heap[w.heap.size]? = some (.cells #[.slice none 0 0, .slice none 0 0] 30 (0, 0)) := by rw [hw5]; exact blk_alloc C4.out _
  have c35 : w5.heap[w4.heap.size]? = some (.cells #[.slice Aq Q.length cq, .slice At 0 ct] 30 (0, 0)) := by rw [hw5]; exact heap_alloc_new w4 _
  have o5 : Kd.R k59 59 w5 w.heap.size (fun _ => True) (.slice Aq Q.length cq) Q := by rw [hw5]; exact Kd.R_alloc O4.out _
  have t5 : Kd.S (Kd.slice 2 (Kd.int .i64)) 34 w5 w.heap.size (fun _ => True) (.slice At 0 ct) [] := by rw [hw5]; exact Kd.S_alloc T4.out _
  rw [← hw5]
  clear hw5 B4 C4 O4 T4 B3 C3 O3 B2 C2 O2
  generalize w4.heap.size = g3 at *
  go_loopw [4] (fun k wr => ∃ (i : Nat) (u : Value), i ≤ T.length ∧ k = .int .i64 (i : Int) ∧ Hid (Below w.heap.size w wr) ∧ Hid (wr.heap[w.heap.size]? = some (.cells #[.slice none 0 0, .slice none 0 0] 30 (0, 0))) ∧ Hid (wr.heap[g3]? = some (.cells #[.slice Aq Q.length cq, u] 30 (0, 0))) ∧ Hid (Kd.R k59 59 wr w.heap.size (fun _ => True) (.slice Aq Q.length cq) Q) ∧ Hid (Kd.S (Kd.slice 2 (Kd.int .i64)) 34 wr w.heap.size (fun _ => True) u (T.take i))) (fun k _ => T.length - (intOf k).toNat)
  case atStart => exact ⟨0, _, Nat.zero_le _, rfl, Lib.hid b5, Lib.hid c25, Lib.hid c35, Lib.hid o5, Lib.hid t5⟩
  case round =>
    clear b5 c25 c35 o5 t5
    obtain ⟨i, u, hi, rfl, HBr, C2r, C3r, CQr, CTr⟩ := hrel
    have gd1 := G9.old_cell9 HBr.out gc1
    by_cases hlt : i < T.length
    · have b1 : (i : Int) < (T.length : Int) := by omega
      have b2 : (0 : Int) ≤ (i : Int) := by omega
      have b3 : (i : Int) < 9223372036854775807 := by omega
      obtain ⟨ba, C, cc, rfl, tc, hcc, hC⟩ := at_L3 hT (i : Int) (by omega) (by omega)
      obtain ⟨t, htd⟩ : ∃ t, t = rd_L3 T (i : Int) := ⟨_, rfl⟩
      rw [← htd] at tc hcc hC
      rw [Int.toNat_natCast] at tc
      have hti : t = T[i] := by
        rw [htd]
        show T.getD (i : Int).toNat _ = _
        rw [Int.toNat_natCast, List.getD_eq_getElem?_getD, List.getElem?_eq_getElem hlt]; rfl
      have htk : T.take (i + 1) = T.take i ++ [t] := by rw [List.take_succ_eq_append_getElem hlt, hti]
      have htn : t.length ≤ 1048576 := htl t (by rw [hti]; exact List.getElem_mem hlt)
      have HTK := Lib.hid htk
      have hln : Hid ((T.take (i + 1)).length = i + 1) := Lib.hid (by rw [List.length_take]; omega)
      have HOWN := Lib.hid (fun (W : World) (h : Below w.heap.size w W) => spec_l00Own.calls C cc t t W (Kd.C_below hC h) hcc (by unfold spec_l00Own.f; simp only [Option.bind_some, List.length_nil, List.nil_append]; rw [if_pos (by omega)]))
      clear htd hti htk hC hcc
      go_wp2_with fail
      have CB := Lib.hid (Below.drew HBr.out)
      have C2 : Hid (wr.drew.heap[w.heap.size]? = some (.cells #[.slice none 0 0, .slice none 0 0] 30 (0, 0))) := C2r
      have C3 : Hid (wr.drew.heap[g3]? = some (.cells #[.slice Aq Q.length cq, u] 30 (0, 0))) := C3r
      have CQ := Lib.hid (Kd.R_drew CQr.out)
      have CT := Lib.hid (Kd.S_drew CTr.out)
      refine start_ (n := 14) (S := fun w' => w'.cell? ⟨g3, 1, none⟩ = some u ∧ w'.cell? ⟨g, 1, none⟩ = some (.slice (some ba) T.length e) ∧ w'.cell? (ba.add i) = some (.slice C t.length cc)) (ds := [13]) #[false, false, false, false, false, false, false, false, false, false, false, false, false, false] (by kernel_rfl) rfl rfl ⟨(blk_cell C3.out 1).trans rfl, G9.old_cell9 CB.out gc1, G9.old_cell9 CB.out tc⟩ (fun hHeld => ?_)
      clear gd1
      generalize wr.drew = w13 at CB C2 C3 CQ CT hHeld ⊢
      clear HBr C2r C3r CQr CTr
      refine pure_ (i := 0) (N := some 22) (v := ?_) (a' := ?_) #[true, false, false, false, false, false, false, false, false, false, false, false, false, false] rfl rfl (by kernel_rfl) (fun _ _ _ h => h) (Or.inl ⟨by rfl, ?_⟩) ?_ ?_
      rotate_left
      · intro w'
        go_simp
        with_reducible rfl
      rotate_left
      · simp only [Act.put, List.setIfInBounds_toArray, List.set_cons_zero, List.set_cons_succ]; rfl
      refine pure_ (i := 2) (N := some 24) (v := ?_) (a' := ?_) #[true, false, true, false, false, false, false, false, false, false, false, false, false, false] rfl rfl (by kernel_rfl) (fun _ _ _ h => h) (Or.inl ⟨by rfl, ?_⟩) ?_ ?_
      rotate_left
      · intro w'
        go_simp
        with_reducible rfl
      rotate_left
      · simp only [Act.put, List.setIfInBounds_toArray, List.set_cons_zero, List.set_cons_succ]; rfl
      refine pure_ (i := 3) (N := some 25) (v := ?_) (a' := ?_) #[true, false, true, true, false, false, false, false, false, false, false, false, false, false] rfl rfl (by kernel_rfl) (fun _ _ _ h => h) (Or.inl ⟨by rfl, ?_⟩) ?_ ?_
      rotate_left
      · intro w'
        go_simp
        with_reducible rfl
      rotate_left
      · simp only [Act.put, List.setIfInBounds_toArray, List.set_cons_zero, List.set_cons_succ]; rfl
      refine pure_ (i := 4) (N := some 26) (v := ?_) (a' := ?_) #[true, false, true, true, true, false, false, false, false, false, false, false, false, false] rfl rfl (by kernel_rfl) (fun _ _ _ h => h) (Or.inl ⟨by rfl, ?_⟩) ?_ ?_
      rotate_left
      · intro w'
        go_simp
        with_reducible rfl
      rotate_left
      · simp only [Act.put, List.setIfInBounds_toArray, List.set_cons_zero, List.set_cons_succ]; rfl
      refine pure_ (i := 6) (N := some 28) (v := ?_) (a' := ?_) #[true, false, true, true, true, false, true, false, false, false, false, false, false, false] rfl rfl (by kernel_rfl) (fun _ _ _ h => h) (Or.inl ⟨by rfl, ?_⟩) ?_ ?_
      rotate_left
      · intro w'
        go_simp
        with_reducible rfl
      rotate_left
      · simp only [Act.put, List.setIfInBounds_toArray, List.set_cons_zero, List.set_cons_succ]; rfl
      refine take_ (i := 1) (N := some 23) (v := ?_) (a' := ?_) #[true, true, true, true, true, false, true, false, false, false, false, false, false, false] rfl rfl (by kernel_rfl) (fun _ _ _ h => h) (Or.inl ⟨by rfl, ?_⟩) hHeld ?_ ?_
      rotate_left
      · intro w' hSw
        (try dsimp only at hSw)
        go_simp
        with_reducible rfl
      rotate_left
      · simp only [Act.put, List.setIfInBounds_toArray, List.set_cons_zero, List.set_cons_succ]; rfl
      refine take_ (i := 5) (N := some 27) (v := ?_) (a' := ?_) #[true, true, true, true, true, true, true, false, false, false, false, false, false, false] rfl rfl (by kernel_rfl) (fun _ _ _ h => h) (Or.inl ⟨by rfl, ?_⟩) hHeld ?_ ?_
      rotate_left
      · intro w' hSw
        (try dsimp only at hSw)
        go_simp
        with_reducible rfl
      rotate_left
      · simp only [Act.put, List.setIfInBounds_toArray, List.set_cons_zero, List.set_cons_succ]; rfl
      refine pure_ (i := 7) (N := some 29) (v := ?_) (a' := ?_) #[true, true, true, true, true, true, true, true, false, false, false, false, false, false] rfl rfl (by kernel_rfl) (fun _ _ _ h => h) (Or.inl ⟨by rfl, ?_⟩) ?_ ?_
      rotate_left
      · intro w'
        go_simp
        with_reducible rfl
      rotate_left
      · simp only [Act.put, List.setIfInBounds_toArray, List.set_cons_zero, List.set_cons_succ]; rfl
      refine take_ (i := 8) (N := some 30) (v := ?_) (a' := ?_) #[true, true, true, true, true, true, true, true, true, false, false, false, false, false] rfl rfl (by kernel_rfl) (fun _ _ _ h => h) (Or.inl ⟨by rfl, ?_⟩) hHeld ?_ ?_
      rotate_left
      · intro w' hSw
        (try dsimp only at hSw)
        go_simp
        with_reducible rfl
      rotate_left
      · simp only [Act.put, List.setIfInBounds_toArray, List.set_cons_zero, List.set_cons_succ]; rfl
      refine one_ (i := 9) (N := some 31) #[true, true, true, true, true, true, true, true, true, true, false, false, false, false] rfl rfl (by kernel_rfl) (by decide) (fun K hK => ?_)
      refine goes_ Try.func96 (by kernel_rfl) rfl #[.slice C t.length cc] (by rfl) rfl rfl (by (try simp only [List.map_toArray, List.map_cons, List.map_nil]); first | done | rfl) ?_
      refine (HOWN.out _ CB.out).mono ?_
      rintro E w14 ⟨v, rfl, hR, hb⟩
      obtain ⟨Ar, cr, rfl⟩ := Kd.R_slice hR
      have D2 := Lib.hid (blk_below C2.out hb); have D3 := Lib.hid (blk_below C3.out hb); have DB := Lib.hid (below_step CB.out hb)
      have DT := Lib.hid (Kd.S_elder' CT.out (Kd.R_base hR) hb); have DQ := Lib.hid (Kd.R_below CQ.out hb); have DR := Lib.hid (Kd.R_lower hR (below_size CB.out))
      clear hR hb C2 C3 CB CT CQ
      refine ⟨_, rfl, ?_⟩
      refine hK.out _ _ ⟨(blk_cell D3.out 1).trans rfl, G9.old_cell9 DB.out gc1, G9.old_cell9 DB.out tc⟩ (fun hHeld => ?_)
      clear hK K
      refine norm_ (a' := ?_) ?_ ?_
      rotate_left
      · show Act.put _ (some 31) _ = _
        simp only [Act.put, List.setIfInBounds_toArray, List.set_cons_zero, List.set_cons_succ]
        rfl
      refine one_ (i := 10) (N := some 32) #[true, true, true, true, true, true, true, true, true, true, true, false, false, false] rfl rfl (by kernel_rfl) (by decide) (fun K hK => ?_)
      refine value_ (w1 := ?_) (v := ?_) (by rfl) rfl ?_ ?_
      rotate_left 2
      · go_simp
        constructor
        · rfl
        · rfl
      refine hK.out _ _ ⟨(blk_cell (blk_alloc D3.out _) 1).trans rfl, G9.old_cell9 (below_alloc DB.out _) gc1, G9.old_cell9 (below_alloc DB.out _) tc⟩ (fun hHeld => ?_)
      clear hK K
      refine norm_ (a' := ?_) ?_ ?_
      rotate_left
      · show Act.put _ (some 32) _ = _
        simp only [Act.put, List.setIfInBounds_toArray, List.set_cons_zero, List.set_cons_succ]
        rfl
      refine one_ (i := 11) (N := some 33) #[true, true, true, true, true, true, true, true, true, true, true, true, false, false] rfl rfl (by kernel_rfl) (by decide) (fun K hK => ?_)
      refine Kd.S_append_step (Kd.slice 2 (Kd.int .i64)) (w0 := w) w.heap.size (by rfl) (.tmp 23) (.tmp 32) 23 34 (.slice none 0 0) 24 rfl Try.underlying23 info34 rfl (by decide) (by omega) u (T.take i) t [.slice Ar t.length cr] (fun _ => True) (fun k_ => some k_ = (.slice Ar t.length cr : Value).ownBlock) rfl rfl ?aP (fun k_ hk_ => ((Kd.R_mono (ok' := fun k_ => ((fun _ => True)) k_ ∧ some k_ ≠ (u : Value).ownBlock) (Kd.R_apart' (DR.out) (Kd.S_typed DT.out) (by decide)) (fun k_ hk => ⟨trivial, hk.2⟩))).1 k_ hk_.symm) ?aF ?aO ?aB ?aS ?aL ?_
      (case aP => exact Kd.M_row (Kd.R_mono (Kd.R_tight rfl (Kd.R_mono (ok' := fun k_ => ((fun _ => True)) k_ ∧ some k_ ≠ (u : Value).ownBlock) (Kd.R_apart' (DR.out) (Kd.S_typed DT.out) (by decide)) (fun k_ hk => ⟨trivial, hk.2⟩))) (fun _ h_ => h_)))
      (case aB => exact DB.out)
      (case aF => exact (fun _ _ => trivial))
      (case aO => exact Kd.S_mono DT.out (fun k_ hk => ⟨trivial, fun e_ => hk.2 e_⟩))
      (case aS => exact below_size DB.out)
      (case aL => have := List.length_take_le i T; omega)
      intro v1 w16 ho hb hg hat
      have E2 := Lib.hid (blk_grown D2.out hg (Kd.S_ne DT.out D2.out (by decide))); have E3 := Lib.hid (blk_grown D3.out hg (Kd.S_ne DT.out D3.out (by decide)))
      have EQ := Lib.hid (Kd.R_over' DQ.out (Kd.S_typed DT.out) (by decide) hg)
      rw [← HTK.out] at ho
      obtain ⟨Av, cv, ev⟩ := Kd.S_slice ho
      rw [hln.out] at ev
      subst ev
      have EB := Lib.hid hb; have ET := Lib.hid ho
      clear ho hb hg hat D2 D3 DB DT DQ DR
      refine hK.out _ _ ⟨(blk_cell E3.out 1).trans rfl, G9.old_cell9 EB.out gc1, G9.old_cell9 EB.out tc⟩ (fun hHeld => ?_)
      clear hK K
      refine norm_ (a' := ?_) ?_ ?_
      rotate_left
      · show Act.put _ (some 33) _ = _
        simp only [Act.put, List.setIfInBounds_toArray, List.set_cons_zero, List.set_cons_succ]
        rfl
      refine pure_ (i := 12) (N := some 34) (v := ?_) (a' := ?_) #[true, true, true, true, true, true, true, true, true, true, true, true, true, false] rfl rfl (by kernel_rfl) (fun _ _ _ h => h) (Or.inl ⟨by rfl, ?_⟩) ?_ ?_
      rotate_left
      · intro w'
        go_simp
        with_reducible rfl
      rotate_left
      · simp only [Act.put, List.setIfInBounds_toArray, List.set_cons_zero, List.set_cons_succ]; rfl
      refine last_ (i := 13) (N := none) #[true, true, true, true, true, true, true, true, true, true, true, true, true, true] rfl rfl (by kernel_rfl) (by decide) (fun K hK => ?_)
      have hs28 : w16.cell? ⟨g3, 1, none⟩ = some u := (blk_cell E3.out 1).trans rfl
      have hfs28 := blk_frozen E3.out 1
      refine skip_ (w1 := ?_) (by rfl) rfl ?_ ?_
      rotate_left
      · go_simp
        rfl
      refine hK.out _ _ ?_
      clear hK K
      refine done_ (by kernel_rfl) ?_
      go_wp2_with fail
      exact ⟨⟨i + 1, .slice Av (i + 1) cv, hlt, by simp, Lib.hid (below_set EB.out (Nat.le_of_lt hge)), Lib.hid (blk_far E2.out (Nat.ne_of_lt hge) _), Lib.hid (blk_put E3.out 1 _ rfl), Lib.hid (Kd.R_mono (Kd.R_far (p := ⟨g3, 1, none⟩) (Kd.R_types EQ.out E3.out (by decide)) (fun _ hk => hk.2) _) (fun _ _ => trivial)), Lib.hid (Kd.S_mono (Kd.S_far (p := ⟨g3, 1, none⟩) (Kd.S_types ET.out E3.out (by decide)) (fun _ hk => hk.2) _) (fun _ _ => trivial))⟩, by simp [intOf]; omega⟩
    · obtain rfl : i = T.length := by omega
      have hu := CTr.out
      rw [List.take_length] at hu
      obtain ⟨Au, cu, rfl⟩ := Kd.S_slice hu
      have f30 := (blk_cell C3r.out 0).trans rfl
      have f31 := (blk_cell C3r.out 1).trans rfl
      have f20 := (blk_cell C2r.out 0).trans rfl
      have f21 := (blk_cell C2r.out 1).trans rfl
      have q20 := blk_frozen C2r.out 0
      have q21 := blk_frozen C2r.out 1
      have HU := Lib.hid hu
      clear hu CTr
      go_wp2_with fail
      ((try simp only [Exit.inBlock, Exit.then]); refine bodyPost_ret (by simp [results, Try.results65, go_sem, f20, f21, setCell_same_of, World.cell?_setCell_other]; try rfl) rfl ?_)
      exact ⟨_, _, rfl, Kd.R_mono (Kd.R_far (p := ⟨w.heap.size, 1, none⟩) (Kd.R_far (p := ⟨w.heap.size, 0, none⟩) (Kd.R_types CQr.out C2r.out (by decide)) (fun _ hk => hk.2) _) (fun _ hk => hk.2) _) (fun _ _ => trivial), Kd.S_mono (Kd.S_far (p := ⟨w.heap.size, 1, none⟩) (Kd.S_far (p := ⟨w.heap.size, 0, none⟩) (Kd.S_types HU.out C2r.out (by decide)) (fun _ hk => hk.2) _) (fun _ hk => hk.2) _) (fun _ _ => trivial), below_set (below_set HBr.out (Nat.le_refl _)) (Nat.le_refl _)⟩

end Go.Proofs.Ytnibobbfepdeiaa
