/-
  Contracts: the reference's copy of a mesh. (Printed by gen/gen_own.py)
-/
import Derived.Test.YtnibobbfepdeiaaFw
import Derived.Test.YtnibobbfepdeiaaPMeshx32
import Derived.Test.YtnibobbfepdeiaaPMeshx24
import Derived.Lib.Hide
namespace Go.Proofs.Ytnibobbfepdeiaa.G9
open Fl Go.RowKit Go.Proofs.YtnibobbfepdeiaaW.PrintWords Go.Proofs.YtnibobbfepdeiaaW.PrintLast Go.Proofs.YtnibobbfepdeiaaW.PrintMore Go.Proofs.Ytnibobbfepdeiaa.PMesh
set_option linter.unusedVariables false

theorem old_cell9 {w W : World} {a : Addr} {v : Value} (hb : Below w.heap.size w W) (h : w.cell? a = some v) : W.cell? a = some v := (hb.cell (World.block_lt_of_cell? _ _ h)).trans h

set_option maxHeartbeats 4000000 in
set_option maxRecDepth 100000 in
theorem spec_l02Own (g : Nat) (Q : List S59) (T : List (List Int)) (w0 w : World) (hI : IsS30 w0 w g Q T) (hB0 : Below w0.heap.size w0 w) (hq : Q.length ≤ 1048576) (ht : T.length ≤ 1048576) (htl : ∀ t ∈ T, t.length ≤ 1048576) :
    Calls Try.prog 65 #[.pointer (some ⟨g, 0, none⟩)] w fun E w' => ∃ v0 v1 : Value, E = .returned (.agg #[v0, v1]) ∧ Kd.R k59 59 w' w.heap.size (fun _ => True) v0 Q ∧ Kd.S (Kd.slice 2 (Kd.int .i64)) 34 w' w.heap.size (fun _ => True) v1 T ∧ Below w.heap.size w w' := by
  obtain ⟨A, c, B, e, hg, _, hQ0, hT0⟩ := hI
  have hQ := Kd.C_below hQ0 hB0
  have hT := Kd.C_below hT0 hB0
  have gc0 : w.cell? ⟨g, 0, none⟩ = some (.slice A Q.length c) := (blk_cell hg 0).trans rfl
  have gc1 : w.cell? ⟨g, 1, none⟩ = some (.slice B T.length e) := (blk_cell hg 1).trans rfl
  have HQ := Lib.hid hQ
  have HB := Lib.hid (Below.refl w.heap.size w)
  obtain ⟨W1, hW1⟩ : ∃ W, W = w.alloc (.cells #[.slice none 0 0, .slice none 0 0] 30) := ⟨_, rfl⟩
  clear hQ0 hT0 hB0 hg
  have hA0 := heap_alloc_new w (.cells #[.slice none 0 0, .slice none 0 0] 30)
  have HB1 := Lib.hid (below_alloc (Below.refl w.heap.size w) (.cells #[.slice none 0 0, .slice none 0 0] 30))
  have HA0 : Hid ((w.alloc (.cells #[.slice none 0 0, .slice none 0 0] 30)).heap[w.heap.size]? = some (.cells #[.slice none 0 0, .slice none 0 0] 30 (0, 0))) := Lib.hid hA0
  clear hW1 hA0
  go_enter Try.func65, Try.ntmps65
  go_wp2_with (first
    | ((with_reducible refine gate_dst (N := 5) rfl ?_); refine Kd.R_lit k59 _ 59 ?hg (N := 5) ?hd (xs := ([] : List S59)) (inner := []) (ok := fun _ => True) (okp := fun _ => True) ?hr ?hp (fun _ hk => hk) trivial (Below.refl _ _) (Nat.le_refl _) (by simp) ?_; (case hd => rfl); (case hg => rfl); (case hr => first | (go_simp; done) | (go_simp; rfl)); (case hp => exact (Reps.none _ _)); intro v2 w2 ho hb hg_ hnew_; clear hg_ hnew_; have B2 := Lib.hid (below_step HB1.out hb); have C2 := Lib.hid (blk_below HA0.out hb); have O2 := Lib.hid (Kd.R_lower ho (below_size HB1.out)); have gd0 := old_cell9 B2.out gc0; clear ho hb)
    | ((with_reducible refine gate_builtin (b := .append) (xs := #[.tmp 5, .tmp 9]) rfl ?_); at_builtin; refine Kd.R_append_rows k59 (w0 := w) w.heap.size rfl (.tmp 5) (.tmp 9) 28 59 (.agg #[(.float .f32 0), (.float .f32 0), (.float .f32 0)]) 12 rfl Try.underlying28 info59 rfl (by decide) (by omega) v2 [] Q _ _ _ (fun _ => True) (fun _ => False) rfl rfl ?aO ?aR (fun _ _ h => h) (fun _ h => h.elim) ?aF ?aB ?aS ?aL ?_; (case aR => exact Kd.C_below HQ.out B2.out); (case aB => exact B2.out); (case aF => exact (fun _ _ => trivial)); (case aO => exact O2.out); (case aS => exact below_size B2.out); (case aL => simp only [List.length_nil]; omega); intro v3 w3 ho hb hg hat; rw [List.nil_append] at ho; have C3 := Lib.hid (blk_grown C2.out hg (Kd.R_ne O2.out C2.out (by decide))); obtain ⟨Aq, cq, rfl⟩ := Kd.R_slice ho; have O3 := Lib.hid ho; have B3 := Lib.hid hb; clear ho hb hg hat gd0)
    | ((with_reducible refine gate_dst (N := 11) rfl ?_); refine Kd.S_lit (Kd.slice 2 (Kd.int .i64)) _ 34 ?hg (N := 11) ?hd (xs := ([] : List (List Int))) (inner := []) (ok := fun _ => True) (okp := fun _ => True) ?hr ?hp (fun _ hk => hk) trivial (Below.refl _ _) (Nat.le_refl _) (by simp) ?_; (case hd => rfl); (case hg => rfl); (case hr => first | (go_simp; done) | (go_simp; rfl)); (case hp => exact (Reps.none _ _)); intro v4 w4 ho hb hg_ hnew_; clear hg_ hnew_; obtain ⟨At, ct, rfl⟩ := Kd.S_slice ho; have B4 := Lib.hid (below_step B3.out hb); have C4 := Lib.hid (blk_below C3.out hb); have O4 := Lib.hid (Kd.R_below O3.out hb); have T4 := Lib.hid (Kd.S_lower ho (below_size B3.out)); clear ho hb)
    | fail)
  have hge : w.heap.size < w4.heap.size := blk_lt C4.out
  obtain ⟨w5, hw5⟩ : ∃ W, W = w4.alloc (.cells #[.slice Aq Q.length cq, .slice At 0 ct] 30) := ⟨_, rfl⟩
  have b5 : Below w.heap.size w w5 := by rw [hw5]; exact below_alloc B4.out _
  have c25 : w5.heap[w.heap.size]? = some (.cells #[.slice none 0 0, .slice none 0 0] 30 (0, 0)) := by rw [hw5]; exact blk_alloc C4.out _
  have c35 : w5.heap[w4.heap.size]? = some (.cells #[.slice Aq Q.length cq, .slice At 0 ct] 30 (0, 0)) := by rw [hw5]; exact heap_alloc_new w4 _
  have o5 : Kd.R k59 59 w5 w.heap.size (fun _ => True) (.slice Aq Q.length cq) Q := by rw [hw5]; exact Kd.R_alloc O4.out _
  have t5 : Kd.S (Kd.slice 2 (Kd.int .i64)) 34 w5 w.heap.size (fun _ => True) (.slice At 0 ct) [] := by rw [hw5]; exact Kd.S_alloc T4.out _
  rw [← hw5]
  clear hw5 B4 C4 O4 T4 B3 C3 O3 B2 C2 O2
  generalize w4.heap.size = g3 at *
  go_loopw [4] (fun k wr => ∃ (i : Nat) (u : Value), i ≤ T.length ∧ k = .int .i64 (i : Int) ∧ Hid (Below w.heap.size w wr) ∧ Hid (wr.heap[w.heap.size]? = some (.cells #[.slice none 0 0, .slice none 0 0] 30 (0, 0))) ∧ Hid (wr.heap[g3]? = some (.cells #[.slice Aq Q.length cq, u] 30 (0, 0))) ∧ Hid (Kd.R k59 59 wr w.heap.size (fun _ => True) (.slice Aq Q.length cq) Q) ∧ Hid (Kd.S (Kd.slice 2 (Kd.int .i64)) 34 wr w.heap.size (fun _ => True) u (T.take i))) (fun k _ => T.length - (intOf k).toNat)
  case atStart => exact ⟨0, _, Nat.zero_le _, rfl, Lib.hid b5, Lib.hid c25, Lib.hid c35, Lib.hid o5, Lib.hid t5⟩
  case round =>
    clear b5 c25 c35 o5 t5
    obtain ⟨i, u, hi, rfl, HBr, C2r, C3r, CQr, CTr⟩ := hrel
    have gd1 := old_cell9 HBr.out gc1
    by_cases hlt : i < T.length
    · have b1 : (i : Int) < (T.length : Int) := by omega
      have b2 : (0 : Int) ≤ (i : Int) := by omega
      have b3 : (i : Int) < 9223372036854775807 := by omega
      obtain ⟨ba, C, cc, rfl, tc, hcc, hC⟩ := at_L3 hT (i : Int) (by omega) (by omega)
      obtain ⟨t, htd⟩ : ∃ t, t = rd_L3 T (i : Int) := ⟨_, rfl⟩
      rw [← htd] at tc hcc hC
      rw [Int.toNat_natCast] at tc
      have hti : t = T[i] := by
        rw [htd]
        show T.getD (i : Int).toNat _ = _
        rw [Int.toNat_natCast, List.getD_eq_getElem?_getD, List.getElem?_eq_getElem hlt]; rfl
      have htk : T.take (i + 1) = T.take i ++ [t] := by rw [List.take_succ_eq_append_getElem hlt, hti]
      have htn : t.length ≤ 1048576 := htl t (by rw [hti]; exact List.getElem_mem hlt)
      have HTK := Lib.hid htk
      have hln : Hid ((T.take (i + 1)).length = i + 1) := Lib.hid (by rw [List.length_take]; omega)
      have HOWN := Lib.hid (fun (W : World) (h : Below w.heap.size w W) => spec_l00Own.calls C cc t t W (Kd.C_below hC h) hcc (by unfold spec_l00Own.f; simp only [Option.bind_some, List.length_nil, List.nil_append]; rw [if_pos (by omega)]))
      clear htd hti htk hC hcc
      go_wp2_with fail
      have CB := Lib.hid (Below.drew HBr.out)
      have C2 : Hid (wr.drew.heap[w.heap.size]? = some (.cells #[.slice none 0 0, .slice none 0 0] 30 (0, 0))) := C2r
      have C3 : Hid (wr.drew.heap[g3]? = some (.cells #[.slice Aq Q.length cq, u] 30 (0, 0))) := C3r
      have CQ := Lib.hid (Kd.R_drew CQr.out)
      have CT := Lib.hid (Kd.S_drew CTr.out)
      refine start_ (n := 14) (S := fun w' => w'.cell? ⟨g3, 1, none⟩ = some u ∧ w'.cell? ⟨g, 1, none⟩ = some (.slice (some ba) T.length e) ∧ w'.cell? (ba.add i) = some (.slice C t.length cc)) (ds := [13]) #[false, false, false, false, false, false, false, false, false, false, false, false, false, false] (by kernel_rfl) rfl rfl ⟨(blk_cell C3.out 1).trans rfl, old_cell9 CB.out gc1, old_cell9 CB.out tc⟩ (fun hHeld => ?_)
      clear gd1
      generalize wr.drew = w13 at CB C2 C3 CQ CT hHeld ⊢
      clear HBr C2r C3r CQr CTr
      refine pure_ (i := 0) (N := some 22) (v := ?_) (a' := ?_) #[true, false, false, false, false, false, false, false, false, false, false, false, false, false] rfl rfl (by kernel_rfl) (fun _ _ _ h => h) (Or.inl ⟨by rfl, ?_⟩) ?_ ?_
      rotate_left
      · intro w'
        go_simp
        with_reducible rfl
      rotate_left
      · simp only [Act.put, List.setIfInBounds_toArray, List.set_cons_zero, List.set_cons_succ]; rfl
      refine pure_ (i := 2) (N := some 24) (v := ?_) (a' := ?_) #[true, false, true, false, false, false, false, false, false, false, false, false, false, false] rfl rfl (by kernel_rfl) (fun _ _ _ h => h) (Or.inl ⟨by rfl, ?_⟩) ?_ ?_
      rotate_left
      · intro w'
        go_simp
        with_reducible rfl
      rotate_left
      · simp only [Act.put, List.setIfInBounds_toArray, List.set_cons_zero, List.set_cons_succ]; rfl
      refine pure_ (i := 3) (N := some 25) (v := ?_) (a' := ?_) #[true, false, true, true, false, false, false, false, false, false, false, false, false, false] rfl rfl (by kernel_rfl) (fun _ _ _ h => h) (Or.inl ⟨by rfl, ?_⟩) ?_ ?_
      rotate_left
      · intro w'
        go_simp
        with_reducible rfl
      rotate_left
      · simp only [Act.put, List.setIfInBounds_toArray, List.set_cons_zero, List.set_cons_succ]; rfl
      refine pure_ (i := 4) (N := some 26) (v := ?_) (a' := ?_) #[true, false, true, true, true, false, false, false, false, false, false, false, false, false] rfl rfl (by kernel_rfl) (fun _ _ _ h => h) (Or.inl ⟨by rfl, ?_⟩) ?_ ?_
      rotate_left
      · intro w'
        go_simp
        with_reducible rfl
      rotate_left
      · simp only [Act.put, List.setIfInBounds_toArray, List.set_cons_zero, List.set_cons_succ]; rfl
      refine pure_ (i := 6) (N := some 28) (v := ?_) (a' := ?_) #[true, false, true, true, true, false, true, false, false, false, false, false, false, false] rfl rfl (by kernel_rfl) (fun _ _ _ h => h) (Or.inl ⟨by rfl, ?_⟩) ?_ ?_
      rotate_left
      · intro w'
        go_simp
        with_reducible rfl
      rotate_left
      · simp only [Act.put, List.setIfInBounds_toArray, List.set_cons_zero, List.set_cons_succ]; rfl
      refine take_ (i := 1) (N := some 23) (v := ?_) (a' := ?_) #[true, true, true, true, true, false, true, false, false, false, false, false, false, false] rfl rfl (by kernel_rfl) (fun _ _ _ h => h) (Or.inl ⟨by rfl, ?_⟩) hHeld ?_ ?_
      rotate_left
      · intro w' hSw
        (try dsimp only at hSw)
        go_simp
        with_reducible rfl
      rotate_left
      · simp only [Act.put, List.setIfInBounds_toArray, List.set_cons_zero, List.set_cons_succ]; rfl
      refine take_ (i := 5) (N := some 27) (v := ?_) (a' := ?_) #[true, true, true, true, true, true, true, false, false, false, false, false, false, false] rfl rfl (by kernel_rfl) (fun _ _ _ h => h) (Or.inl ⟨by rfl, ?_⟩) hHeld ?_ ?_
      rotate_left
      · intro w' hSw
        (try dsimp only at hSw)
        go_simp
        with_reducible rfl
      rotate_left
      · simp only [Act.put, List.setIfInBounds_toArray, List.set_cons_zero, List.set_cons_succ]; rfl
      refine pure_ (i := 7) (N := some 29) (v := ?_) (a' := ?_) #[true, true, true, true, true, true, true, true, false, false, false, false, false, false] rfl rfl (by kernel_rfl) (fun _ _ _ h => h) (Or.inl ⟨by rfl, ?_⟩) ?_ ?_
      rotate_left
      · intro w'
        go_simp
        with_reducible rfl
      rotate_left
      · simp only [Act.put, List.setIfInBounds_toArray, List.set_cons_zero, List.set_cons_succ]; rfl
      refine take_ (i := 8) (N := some 30) (v := ?_) (a' := ?_) #[true, true, true, true, true, true, true, true, true, false, false, false, false, false] rfl rfl (by kernel_rfl) (fun _ _ _ h => h) (Or.inl ⟨by rfl, ?_⟩) hHeld ?_ ?_
      rotate_left
      · intro w' hSw
        (try dsimp only at hSw)
        go_simp
        with_reducible rfl
      rotate_left
      · simp only [Act.put, List.setIfInBounds_toArray, List.set_cons_zero, List.set_cons_succ]; rfl
      refine one_ (i := 9) (N := some 31) #[true, true, true, true, true, true, true, true, true, true, false, false, false, false] rfl rfl (by kernel_rfl) (by decide) (fun K hK => ?_)
      refine goes_ Try.func96 (by kernel_rfl) rfl #[.slice C t.length cc] (by rfl) rfl rfl (by (try simp only [List.map_toArray, List.map_cons, List.map_nil]); first | done | rfl) ?_
      refine (HOWN.out _ CB.out).mono ?_
      rintro E w14 ⟨v, rfl, hR, hb⟩
      obtain ⟨Ar, cr, rfl⟩ := Kd.R_slice hR
      have D2 := Lib.hid (blk_below C2.out hb); have D3 := Lib.hid (blk_below C3.out hb); have DB := Lib.hid (below_step CB.out hb)
      have DT := Lib.hid (Kd.S_elder' CT.out (Kd.R_base hR) hb); have DQ := Lib.hid (Kd.R_below CQ.out hb); have DR := Lib.hid (Kd.R_lower hR (below_size CB.out))
      clear hR hb C2 C3 CB CT CQ
      refine ⟨_, rfl, ?_⟩
      refine hK.out _ _ ⟨(blk_cell D3.out 1).trans rfl, old_cell9 DB.out gc1, old_cell9 DB.out tc⟩ (fun hHeld => ?_)
      clear hK K
      refine norm_ (a' := ?_) ?_ ?_
      rotate_left
      · show Act.put _ (some 31) _ = _
        simp only [Act.put, List.setIfInBounds_toArray, List.set_cons_zero, List.set_cons_succ]
        rfl
      refine one_ (i := 10) (N := some 32) #[true, true, true, true, true, true, true, true, true, true, true, false, false, false] rfl rfl (by kernel_rfl) (by decide) (fun K hK => ?_)
      refine value_ (w1 := ?_) (v := ?_) (by rfl) rfl ?_ ?_
      rotate_left 2
      · go_simp
        constructor
        · rfl
        · rfl
      refine hK.out _ _ ⟨(blk_cell (blk_alloc D3.out _) 1).trans rfl, old_cell9 (below_alloc DB.out _) gc1, old_cell9 (below_alloc DB.out _) tc⟩ (fun hHeld => ?_)
      clear hK K
      refine norm_ (a' := ?_) ?_ ?_
      rotate_left
      · show Act.put _ (some 32) _ = _
        simp only [Act.put, List.setIfInBounds_toArray, List.set_cons_zero, List.set_cons_succ]
        rfl
      refine one_ (i := 11) (N := some 33) #[true, true, true, true, true, true, true, true, true, true, true, true, false, false] rfl rfl (by kernel_rfl) (by decide) (fun K hK => ?_)
      refine Kd.S_append_step (Kd.slice 2 (Kd.int .i64)) (w0 := w) w.heap.size (by rfl) (.tmp 23) (.tmp 32) 23 34 (.slice none 0 0) 24 rfl Try.underlying23 info34 rfl (by decide) (by omega) u (T.take i) t [.slice Ar t.length cr] (fun _ => True) (fun k_ => some k_ = (.slice Ar t.length cr : Value).ownBlock) rfl rfl ?aP (fun k_ hk_ => ((Kd.R_mono (ok' := fun k_ => ((fun _ => True)) k_ ∧ some k_ ≠ (u : Value).ownBlock) (Kd.R_apart' (DR.out) (Kd.S_typed DT.out) (by decide)) (fun k_ hk => ⟨trivial, hk.2⟩))).1 k_ hk_.symm) ?aF ?aO ?aB ?aS ?aL ?_
      (case aP => exact Kd.M_row (Kd.R_mono (Kd.R_tight rfl (Kd.R_mono (ok' := fun k_ => ((fun _ => True)) k_ ∧ some k_ ≠ (u : Value).ownBlock) (Kd.R_apart' (DR.out) (Kd.S_typed DT.out) (by decide)) (fun k_ hk => ⟨trivial, hk.2⟩))) (fun _ h_ => h_)))
      (case aB => exact DB.out)
      (case aF => exact (fun _ _ => trivial))
      (case aO => exact Kd.S_mono DT.out (fun k_ hk => ⟨trivial, fun e_ => hk.2 e_⟩))
      (case aS => exact below_size DB.out)
      (case aL => have := List.length_take_le i T; omega)
      intro v1 w16 ho hb hg hat
      have E2 := Lib.hid (blk_grown D2.out hg (Kd.S_ne DT.out D2.out (by decide))); have E3 := Lib.hid (blk_grown D3.out hg (Kd.S_ne DT.out D3.out (by decide)))
      have EQ := Lib.hid (Kd.R_over' DQ.out (Kd.S_typed DT.out) (by decide) hg)
      rw [← HTK.out] at ho
      obtain ⟨Av, cv, ev⟩ := Kd.S_slice ho
      rw [hln.out] at ev
      subst ev
      have EB := Lib.hid hb; have ET := Lib.hid ho
      clear ho hb hg hat D2 D3 DB DT DQ DR
      refine hK.out _ _ ⟨(blk_cell E3.out 1).trans rfl, old_cell9 EB.out gc1, old_cell9 EB.out tc⟩ (fun hHeld => ?_)
      clear hK K
      refine norm_ (a' := ?_) ?_ ?_
      rotate_left
      · show Act.put _ (some 33) _ = _
        simp only [Act.put, List.setIfInBounds_toArray, List.set_cons_zero, List.set_cons_succ]
        rfl
      refine pure_ (i := 12) (N := some 34) (v := ?_) (a' := ?_) #[true, true, true, true, true, true, true, true, true, true, true, true, true, false] rfl rfl (by kernel_rfl) (fun _ _ _ h => h) (Or.inl ⟨by rfl, ?_⟩) ?_ ?_
      rotate_left
      · intro w'
        go_simp
        with_reducible rfl
      rotate_left
      · simp only [Act.put, List.setIfInBounds_toArray, List.set_cons_zero, List.set_cons_succ]; rfl
      refine last_ (i := 13) (N := none) #[true, true, true, true, true, true, true, true, true, true, true, true, true, true] rfl rfl (by kernel_rfl) (by decide) (fun K hK => ?_)
      have hs28 : w16.cell? ⟨g3, 1, none⟩ = some u := (blk_cell E3.out 1).trans rfl
      have hfs28 := blk_frozen E3.out 1
      refine skip_ (w1 := ?_) (by rfl) rfl ?_ ?_
      rotate_left
      · go_simp
        rfl
      refine hK.out _ _ ?_
      clear hK K
      refine done_ (by kernel_rfl) ?_
      go_wp2_with fail
      exact ⟨⟨i + 1, .slice Av (i + 1) cv, hlt, by simp, Lib.hid (below_set EB.out (Nat.le_of_lt hge)), Lib.hid (blk_far E2.out (Nat.ne_of_lt hge) _), Lib.hid (blk_put E3.out 1 _ rfl), Lib.hid (Kd.R_mono (Kd.R_far (p := ⟨g3, 1, none⟩) (Kd.R_types EQ.out E3.out (by decide)) (fun _ hk => hk.2) _) (fun _ _ => trivial)), Lib.hid (Kd.S_mono (Kd.S_far (p := ⟨g3, 1, none⟩) (Kd.S_types ET.out E3.out (by decide)) (fun _ hk => hk.2) _) (fun _ _ => trivial))⟩, by simp [intOf]; omega⟩
    · obtain rfl : i = T.length := by omega
      have hu := CTr.out
      rw [List.take_length] at hu
      obtain ⟨Au, cu, rfl⟩ := Kd.S_slice hu
      have f30 := (blk_cell C3r.out 0).trans rfl
      have f31 := (blk_cell C3r.out 1).trans rfl
      have f20 := (blk_cell C2r.out 0).trans rfl
      have f21 := (blk_cell C2r.out 1).trans rfl
      have q20 := blk_frozen C2r.out 0
      have q21 := blk_frozen C2r.out 1
      have HU := Lib.hid hu
      clear hu CTr
      go_wp2_with fail
      ((try simp only [Exit.inBlock, Exit.then]); refine bodyPost_ret (by simp [results, Try.results65, go_sem, f20, f21, setCell_same_of, World.cell?_setCell_other]; try rfl) rfl ?_)
      exact ⟨_, _, rfl, Kd.R_mono (Kd.R_far (p := ⟨w.heap.size, 1, none⟩) (Kd.R_far (p := ⟨w.heap.size, 0, none⟩) (Kd.R_types CQr.out C2r.out (by decide)) (fun _ hk => hk.2) _) (fun _ hk => hk.2) _) (fun _ _ => trivial), Kd.S_mono (Kd.S_far (p := ⟨w.heap.size, 1, none⟩) (Kd.S_far (p := ⟨w.heap.size, 0, none⟩) (Kd.S_types HU.out C2r.out (by decide)) (fun _ hk => hk.2) _) (fun _ hk => hk.2) _) (fun _ _ => trivial), below_set (below_set HBr.out (Nat.le_refl _)) (Nat.le_refl _)⟩

end Go.Proofs.Ytnibobbfepdeiaa.G9
