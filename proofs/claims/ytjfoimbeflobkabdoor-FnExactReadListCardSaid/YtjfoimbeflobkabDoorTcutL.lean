/-
  Contracts: a list of whole numbers read from a text, the program's side.
-/
import Derived.Test.YtjfoimbeflobkabDoorTcut
import Derived.Test.YtjfoimbeflobkabDoorTreadL
import Derived.Test.YtjfoimbeflobkabDoorShelfSplit
import Derived.Lib.Hide
import Derived.OwnWalk
namespace Go.Proofs.YtjfoimbeflobkabDoor
open Go.RowKit Go.Proofs.YtjfoimbeflobkabDoorW.PrintWords
set_option linter.unusedVariables false

/-- The library's variable of a greatest length holds some number. -/
def MaxSome (w : World) : Prop := ∃ m : Int, w.cell? ⟨4, 0, none⟩ = some (.int .i64 m)
theorem MaxSome.below {w w' : World} (h : MaxSome w) (hb : Below w.heap.size w w') : MaxSome w' := by
  obtain ⟨m, hm⟩ := h
  exact ⟨m, (hb.cell (World.block_lt_of_cell? _ _ hm)).trans hm⟩

noncomputable def piecesV (s : ByteArray) : List ByteArray := if s = noneS then [] else cutS s

theorem cutS_len (s : ByteArray) : (cutS s).length = Lib.countB s commaS + 1 := Lib.splitB_all commaS (by decide) 0 _ s rfl

theorem ne_noneS {s : ByteArray} (h : s ≠ noneS) : (s.toList == ([110, 111, 110, 101] : List UInt8)) = false := by
  rw [beq_eq_false_iff_ne]
  intro e
  rw [ByteArray.toList_eq] at e
  exact h (ByteArray.ext (Array.toList_inj.1 e))

theorem impl_pieces (s : ByteArray) (hs : s.size ≤ 1048576) (w : World) (hm : MaxSome w) :
    Calls Tryd.prog 36 #[.string s] w fun e w' => ∃ v : Value, e = .returned v ∧ Kd.R Kd.string 9 w' w.heap.size (fun _ => True) v (piecesV s) ∧ Below w.heap.size w w' := by
  by_cases hn : s = noneS
  · subst hn
    have e : piecesV noneS = [] := if_pos rfl
    rw [e]
    clear hs e hm
    have b0 : (noneS.toList == ([110, 111, 110, 101] : List UInt8)) = true := by rw [ByteArray.toList_eq]; decide
    go_enter Tryd.func36, Tryd.ntmps36
    go_wp2_with fail
    go_ret
    exact ⟨_, rfl, Kd.R_nil _ _ _ _ _, Below.refl _ _⟩
  · have e : piecesV s = cutS s := if_neg hn
    rw [e]
    have b0 := ne_noneS hn
    obtain ⟨m, hm⟩ := hm
    have HM : Hid (w.cell? ⟨4, 0, none⟩ = some (.int .i64 m)) := hm
    have hl := cutS_len s
    have hle := Lib.countB_le commaS (by decide) s.size s (Nat.le_refl _)
    have hR : Kd.R Kd.string 9 (w.alloc (.cells ((cutS s).map Value.string).toArray 9)) w.heap.size (fun _ => True) (.slice (some ⟨w.heap.size, 0, none⟩) (Lib.countB s commaS + 1) (Lib.countB s commaS + 1)) (cutS s) := by
      rw [← hl]
      exact Kd.R_of_own (own_lit_of (enc := Value.string) w w.heap.size 9 (cutS s) (Nat.le_refl _) (by omega)) (fun _ _ => trivial)
    have HR : Hid (Kd.R Kd.string 9 (w.alloc (.cells ((cutS s).map Value.string).toArray 9)) w.heap.size (fun _ => True) (.slice (some ⟨w.heap.size, 0, none⟩) (Lib.countB s commaS + 1) (Lib.countB s commaS + 1)) (cutS s)) := hR
    clear hm hn e hR hl hle
    go_enter Tryd.func36, Tryd.ntmps36
    go_wp2_with (first | (go_at_call 49; refine (Tryd.strings_Split s ⟨#[44]⟩ m _ (Nat.lt_of_le_of_lt hs (by decide)) HM.out (by decide)).mono ?_; rintro e w1 ⟨rfl, rfl⟩) | fail)
    go_ret
    exact ⟨_, rfl, HR.out, Below.alloc (Below.refl _ _) (Nat.le_refl _) _⟩

/-- What the program's loop returns. -/
noncomputable def rdL (s : ByteArray) : List Int × Bool := match readAll (piecesV s) with | none => ([], false) | some l => (l, true)

/-- The numbers of the first pieces, all read. -/
theorem readAll_snoc : ∀ (ps : List ByteArray) (p : ByteArray) (l : List Int) (n : Int), readAll ps = some l → readV p = some n → readAll (ps ++ [p]) = some (l ++ [n])
  | [], p, l, n, h, hn => by cases h; simp [readAll, hn]
  | q :: r, p, l, n, h, hn => by
    unfold readAll at h
    cases hq : readV q with
    | none => rw [hq] at h; cases h
    | some a =>
      rw [hq] at h
      cases hr : readAll r with
      | none => rw [hr] at h; cases h
      | some l' =>
        rw [hr] at h
        cases h
        rw [List.cons_append]
        unfold readAll
        rw [hq, readAll_snoc r p l' n hr hn]
        rfl

theorem readAll_stop : ∀ (ps : List ByteArray) (p : ByteArray) (r : List ByteArray), readV p = none → readAll (ps ++ p :: r) = none
  | [], p, r, h => by simp [readAll, h]
  | q :: t, p, r, h => by
    rw [List.cons_append]
    unfold readAll
    cases readV q with
    | none => rfl
    | some a => rw [readAll_stop t p r h]; rfl

theorem piece_size (s : ByteArray) (hs : s.size ≤ 1048576) : ∀ p ∈ piecesV s, p.size ≤ 1048576 := by
  have hk : ∀ (l cur : List UInt8), ∀ q ∈ cutL cur l, q.length ≤ cur.length + l.length := by
    intro l
    induction l with
    | nil => intro cur q hq; rw [List.mem_singleton.1 hq]; simp
    | cons c r ih =>
      intro cur q hq
      unfold cutL at hq
      split at hq
      · rcases List.mem_cons.1 hq with rfl | hq
        · simp
        · have := ih [] q hq; simp at this ⊢; omega
      · have := ih _ q hq; simp at this ⊢; omega
  intro p hp
  unfold piecesV at hp
  split at hp
  · cases hp
  · have h1 : p.data.toList ∈ (cutS s).map (·.data.toList) := List.mem_map.2 ⟨p, hp, rfl⟩
    rw [cutS_lists] at h1
    have h2 := hk _ _ _ h1
    rw [data_length, data_length] at h2
    simp at h2; omega

theorem piecesV_len (s : ByteArray) (hs : s.size ≤ 1048576) : (piecesV s).length ≤ 1048577 := by
  unfold piecesV
  split
  · simp
  · rw [cutS_len]
    have := Lib.countB_le commaS (by decide) s.size s (Nat.le_refl _)
    omega

theorem impl_readList (s : ByteArray) (hs : s.size ≤ 1048576) (w : World) (hm : MaxSome w) (ht : Tab w) (he : Errs w) :
    Calls Tryd.prog 28 #[.string s] w fun e w' => ∃ v : Value, e = .returned (.tuple #[v, .bool (rdL s).2]) ∧ Kd.R (Kd.int .i64) 2 w' w.heap.size (fun _ => True) v (rdL s).1 ∧ Below w.heap.size w w' := by
  have HM : Hid (MaxSome w) := hm
  have HT : Hid (Tab w) := ht
  have HE : Hid (Errs w) := he
  have hps := piece_size s hs
  have hpl := piecesV_len s hs
  obtain ⟨ps, hp⟩ : ∃ ps, ps = piecesV s := ⟨_, rfl⟩
  obtain ⟨rl, rb, hr⟩ : ∃ rl rb, rdL s = (rl, rb) := ⟨_, _, rfl⟩
  have hN : readAll ps = none → rl = [] ∧ rb = false := by
    intro h
    have e : rdL s = ([], false) := by unfold rdL; rw [← hp, h]
    rw [hr] at e
    exact Prod.mk.inj e
  have hS : ∀ l, readAll ps = some l → rl = l ∧ rb = true := by
    intro l h
    have e : rdL s = (l, true) := by unfold rdL; rw [← hp, h]
    rw [hr] at e
    exact Prod.mk.inj e
  rw [← hp] at hps hpl
  rw [hr]
  have HP : Hid (ps = piecesV s) := hp
  have HPS : Hid (∀ p ∈ ps, p.size ≤ 1048576) := hps
  have HN : Hid (readAll ps = none → rl = [] ∧ rb = false) := hN
  have HS : Hid (∀ l, readAll ps = some l → rl = l ∧ rb = true) := hS
  clear hm ht he hps hp hr hN hS
  have hb0 : ∀ o : Obj, Below w.heap.size w (w.alloc o) := fun o => Below.alloc (Below.refl _ _) (Nat.le_refl _) _
  have HB0 : Hid (∀ o : Obj, Below w.heap.size w (w.alloc o)) := hb0
  have hmade : ∀ t : Nat, Kd.R (Kd.int .i64) 2 (w.alloc (.cells #[] 2)) w.heap.size (fun _ => True) (.slice (some ⟨w.heap.size, 0, none⟩) 0 0) [] := fun _ => Kd.R_of_own (own_lit_of (enc := Value.int .i64) w w.heap.size 2 [] (Nat.le_refl _) (by decide)) (fun _ _ => trivial)
  have HMADE : Hid (Kd.R (Kd.int .i64) 2 (w.alloc (.cells #[] 2)) w.heap.size (fun _ => True) (.slice (some ⟨w.heap.size, 0, none⟩) 0 0) []) := hmade 0
  clear hb0 hmade
  go_enter Tryd.func28, Tryd.ntmps28
  go_wp2_with (first | (go_at_call 36; refine (impl_pieces s hs _ (HM.out.below (HB0.out _))).mono ?_; rintro e w1 ⟨v1, rfl, hR1, hb1⟩; have hb1' : Below w.heap.size w w1 := below_next (HB0.out _) hb1; rw [← HP.out] at hR1; obtain ⟨A1, c1, rfl⟩ := Kd.R_slice hR1; have HR1 : Hid (Kd.R Kd.string 9 w1 w.heap.size (fun _ => True) (.slice A1 ps.length c1) ps) := Kd.R_lower hR1 (by simp); have HO1 := Lib.hid (Kd.R_below HMADE.out hb1); clear hR1) | fail)
  go_loopw [4, 13] (fun t i wr => ∃ (k : Nat) (l : List Int), k ≤ ps.length ∧ i = .int .i64 (k : Int) ∧ Hid (readAll (ps.take k) = some l) ∧ Hid (Kd.R (Kd.int .i64) 2 wr w.heap.size (fun _ => True) t l) ∧ Hid (Kd.R Kd.string 9 wr w.heap.size (fun _ => True) (.slice A1 ps.length c1) ps) ∧ Below w.heap.size w wr) (fun _ i _ => ps.length - (intOf i).toNat)
  case atStart => exact ⟨0, [], Nat.zero_le _, rfl, by exact rfl, by exact HO1.out, by exact HR1.out, hb1'⟩
  case round =>
    obtain ⟨k, l, hk, rfl, hrd, hO, hP, hb⟩ := hrel
    clear HR1 HO1 hb1 hb1' HMADE
    have hll : l.length = k := by have := readAll_len _ _ hrd.out; rw [this, List.length_take]; omega
    by_cases hlt : k < ps.length
    · have b1 : (k : Int) < (ps.length : Int) := by omega
      have b2 : (0 : Int) ≤ (k : Int) := by omega
      have b3 : (k : Int) ≤ 1048577 := by omega
      obtain ⟨ad, rfl, hc⟩ := Kd.at_string (Kd.R_reads' hP.out).2.2 (k : Int) b2 b1
      rw [rdOf_get ps k hlt, Int.toNat_natCast] at hc
      have hq := HPS.out ps[k] (List.getElem_mem hlt)
      have hrc := impl_ReadDecimal ps[k] hq
      cases hv : readV ps[k] with
      | none =>
        have hnone : readAll ps = none := by
          have h := readAll_stop (ps.take k) ps[k] (ps.drop (k + 1)) hv
          rw [← drop_cons ps k hlt, List.take_append_drop] at h
          exact h
        obtain ⟨rfl, rfl⟩ := HN.out hnone
        rw [hv] at hrc
        have HRC : Hid (∀ w : World, Tab w → Errs w → Calls Tryd.prog 41 #[.string ps[k]] w fun e w' => e = .returned (.tuple #[.int .i64 0, .bool false]) ∧ Below w.heap.size w w') := hrc
        clear hrc hv hq hnone HN HS
        go_wp2_with (first | (go_at_call 41; refine (HRC.out _ (HT.out.below hb) (HE.out.below hb)).mono ?_; rintro e w2 ⟨rfl, hb2⟩) | fail)
        go_ret2
        exact ⟨_, rfl, Kd.R_nil _ _ _ _ _, below_next hb hb2⟩
      | some n =>
        rw [hv] at hrc
        have HRC : Hid (∀ w : World, Tab w → Errs w → Calls Tryd.prog 41 #[.string ps[k]] w fun e w' => e = .returned (.tuple #[.int .i64 n, .bool true]) ∧ Below w.heap.size w w') := hrc
        have hsn : readAll (ps.take (k + 1)) = some (l ++ [n]) := by
          rw [List.take_succ_eq_append_getElem hlt]
          exact readAll_snoc _ _ _ _ hrd.out hv
        have HSN : Hid (readAll (ps.take (k + 1)) = some (l ++ [n])) := hsn
        clear hrc hv hq hsn
        go_wp2_with (first | (go_at_call 41; refine (HRC.out _ (HT.out.below hb) (HE.out.below hb)).mono ?_; rintro e w2 ⟨rfl, hb2⟩; have K2 : Below w.heap.size w w2 := below_next hb hb2; have O2 := Lib.hid (Kd.R_below hO.out hb2); have P2 := Lib.hid (Kd.R_below hP.out hb2)) | (at_builtin; refine Kd.R_append (Kd.int .i64) (w0 := w) w.heap.size rfl (.tmp 24) (.tmp 26) 22 2 (.int .i64 0) 8 rfl Tryd.underlying22 (by kernel_rfl) rfl (by decide) (by omega) u4 l n [.int .i64 n] (fun _ => True) (fun _ => False) rfl rfl rfl (fun _ hk => hk.elim) (fun _ _ => trivial) O2.out K2 K2.size (by omega) ?_; intro v3 w3 hO3 K3 hg3 hat3; have O3 := Lib.hid hO3; have P3 := Lib.hid (Kd.R_over' P2.out (Kd.R_typed O2.out) (by decide) hg3); clear hat3 hg3 hO3) | fail)
        go_roundw
        case rel => exact ⟨k + 1, l ++ [n], hlt, by simp, by exact HSN.out, by exact O3.out, by exact P3.out, K3⟩
        case measure => simp [intOf]; omega
    · obtain rfl : k = ps.length := by omega
      have hfin : readAll ps = some l := by have := hrd.out; rw [List.take_length] at this; exact this
      obtain ⟨rfl, rfl⟩ := HS.out _ hfin
      clear hfin HN HS
      go_wp2_with fail
      go_ret2
      exact ⟨_, rfl, hO.out, hb⟩

theorem readL_eq (s : ByteArray) : readL s = if (rdL s).2 = true ∧ (rdL s).1.length ≤ 64 then rdL s else ([], false) := by
  unfold readL rdL piecesV
  by_cases hn : s = noneS
  · rw [if_pos hn, if_pos hn]
    simp [readAll]
  · rw [if_neg hn, if_neg hn]
    cases h : readAll (cutS s) with
    | none => simp
    | some l =>
      have := readAll_len _ _ h
      by_cases h64 : 64 < (cutS s).length
      · rw [if_pos h64, if_neg (by simp; omega)]
      · rw [if_neg h64, if_pos (by simp; omega)]

theorem readL_len (s : ByteArray) : (readL s).1.length ≤ 64 := by
  rw [readL_eq]
  split
  · rename_i h; exact h.2
  · simp

theorem impl_ReadList (s : ByteArray) (hs : s.size ≤ 1048576) (w : World) (hm : MaxSome w) (ht : Tab w) (he : Errs w) :
    Calls Tryd.prog 9 #[.string s] w fun e w' => ∃ v : Value, e = .returned (.tuple #[v, .bool (readL s).2]) ∧ Kd.R (Kd.int .i64) 2 w' w.heap.size (fun _ => True) v (readL s).1 ∧ Below w.heap.size w w' := by
  have h := impl_readList s hs w hm ht he
  rw [readL_eq]
  obtain ⟨l, b, hlb⟩ : ∃ l b, rdL s = (l, b) := ⟨_, _, rfl⟩
  rw [hlb] at h ⊢
  have H : Hid (Calls Tryd.prog 28 #[.string s] w fun e w' => ∃ v : Value, e = .returned (.tuple #[v, .bool b]) ∧ Kd.R (Kd.int .i64) 2 w' w.heap.size (fun _ => True) v l ∧ Below w.heap.size w w') := h
  clear h hlb hm ht he
  cases b
  · rw [if_neg (by simp)]
    go_enter Tryd.func9, Tryd.ntmps9
    go_wp2_with (first | (go_at_call 28; refine H.out.mono ?_; rintro e w1 ⟨v, rfl, hR, hb1⟩; obtain ⟨A1, c1, rfl⟩ := Kd.R_slice hR; clear hR) | fail)
    go_ret2
    exact ⟨_, rfl, Kd.R_nil _ _ _ _ _, hb1⟩
  · by_cases hl : l.length ≤ 64
    · rw [if_pos ⟨rfl, hl⟩]
      have b1 : ¬ (64 : Int) < (l.length : Int) := by omega
      go_enter Tryd.func9, Tryd.ntmps9
      go_wp2_with (first | (go_at_call 28; refine H.out.mono ?_; rintro e w1 ⟨v, rfl, hR, hb1⟩; obtain ⟨A1, c1, rfl⟩ := Kd.R_slice hR; have HR := Lib.hid hR; clear hR) | fail)
      go_ret2
      exact ⟨_, rfl, HR.out, hb1⟩
    · rw [if_neg (fun h => hl h.2)]
      have b1 : (64 : Int) < (l.length : Int) := by omega
      go_enter Tryd.func9, Tryd.ntmps9
      go_wp2_with (first | (go_at_call 28; refine H.out.mono ?_; rintro e w1 ⟨v, rfl, hR, hb1⟩; obtain ⟨A1, c1, rfl⟩ := Kd.R_slice hR; clear hR) | fail)
      go_ret2
      exact ⟨_, rfl, Kd.R_nil _ _ _ _ _, hb1⟩
end Go.Proofs.YtjfoimbeflobkabDoor
