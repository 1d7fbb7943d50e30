/-
  The proof's texts, one behind the other: XTcut XTdecL XTerr XTreadL XTcutL XTnread XTfrow XTnimpl XTnspec XTmarkF XE4 XTnlaw XTwrap.
-/
import Derived.Test.YtjfoimbeflobkabDoorMLExactReadNumbersb
import Derived.Test.YtjfoimbeflobkabDoorPReadListx2
import Derived.Lib.SplitLaws
import Derived.Test.YtjfoimbeflobkabDoorShelfDec
import Derived.Lib.AppendIntMem
import Derived.WalkKit
import Derived.LaidLaws
import Derived.Test.YtjfoimbeflobkabDoorShelfParse
import Derived.Lib.ConvBytes
import Derived.Lib.Hide
import Derived.Test.YtjfoimbeflobkabDoorShelfSplit
import Derived.OwnWalk
import Derived.Laws.Cover2
import Derived.HandedShaped
import Derived.Shelf.Vars
namespace Go.Proofs.YtjfoimbeflobkabDoor
open Go.RowKit Go.Proofs.YtjfoimbeflobkabDoorW.PrintWords
set_option linter.unusedVariables false

/-- The comma, as a text. -/
def commaS : ByteArray := ⟨#[44]⟩
def noneS : ByteArray := ⟨#[110, 111, 110, 101]⟩
/-- A text's pieces between commas. -/
def cutS (s : ByteArray) : List ByteArray := Lib.splitB commaS 0 (Lib.countB s commaS) s

def cutL : List UInt8 → List UInt8 → List (List UInt8)
  | cur, [] => [cur]
  | cur, c :: r => if c = 44 then cur :: cutL [] r else cutL (cur ++ [c]) r

theorem index_comma (r : List UInt8) : ∀ cur : List UInt8, (∀ c ∈ cur, c ≠ 44) → Lib.index (cur ++ 44 :: r) [44] = (cur.length : Int)
  | [], _ => by simp [Lib.index]
  | c :: t, h => by
    have hc := h c (by simp)
    have ih := index_comma r t (fun d hd => h d (by simp [hd]))
    rw [List.cons_append]
    unfold Lib.index
    rw [if_neg (by simp; exact fun e => hc e.symm), ih, if_neg (by simp)]
    simp

theorem count_cur : ∀ cur : List UInt8, (∀ c ∈ cur, c ≠ 44) → List.count 44 cur = 0 := fun cur h => List.count_eq_zero.2 (fun hm => h 44 hm rfl)

theorem split_cutL : ∀ (l cur : List UInt8), (∀ c ∈ cur, c ≠ 44) → Lib.splitK [44] 0 (Lib.count (cur ++ l) [44]) (cur ++ l) = cutL cur l
  | [], cur, h => by
    rw [Lib.count_one, List.append_nil, count_cur cur h]
    rfl
  | c :: r, cur, h => by
    unfold cutL
    by_cases hc : c = 44
    · subst hc
      rw [if_pos rfl]
      have ih := split_cutL r [] (by simp)
      have hi := index_comma r cur h
      have e : Lib.count (cur ++ 44 :: r) [44] = Lib.count r [44] + 1 := by
        rw [Lib.count_one, Lib.count_one, List.count_append, count_cur cur h, List.count_cons]; simp
      rw [e]
      have e2 : (Int.toNat (cur.length : Int)) + 0 = cur.length := by simp
      have e3 : (Int.toNat (cur.length : Int)) + [(44 : UInt8)].length = cur.length + 1 := by simp
      unfold Lib.splitK
      rw [hi, if_neg (by simp), e2, e3]
      have a1 : (cur ++ 44 :: r).take cur.length = cur := by simp
      have a2 : (cur ++ 44 :: r).drop (cur.length + 1) = r := by
        rw [← List.drop_drop, List.drop_left]; rfl
      rw [a1, a2]
      rw [List.nil_append] at ih
      rw [ih]
    · rw [if_neg hc]
      have ih := split_cutL r (cur ++ [c]) (by
        intro d hd
        rcases List.mem_append.1 hd with hd | hd
        · exact h d hd
        · rw [List.mem_singleton.1 hd]; exact hc)
      rw [List.append_assoc] at ih
      exact ih

theorem cutS_lists (s : ByteArray) : (cutS s).map (·.data.toList) = cutL [] s.data.toList := by
  unfold cutS
  rw [Lib.splitB_data]
  exact split_cutL s.data.toList [] (by simp)

theorem list_texts {a b : List ByteArray} (h : a.map (·.data.toList) = b.map (·.data.toList)) : a = b := by
  have hinj : ∀ x y : ByteArray, x.data.toList = y.data.toList → x = y := fun x y e => ByteArray.ext (Array.toList_inj.1 e)
  induction a generalizing b with
  | nil => cases b with
    | nil => rfl
    | cons _ _ => cases h
  | cons x r ih => cases b with
    | nil => cases h
    | cons y t =>
      rw [List.map_cons, List.map_cons] at h
      injection h with h1 h2
      rw [hinj x y h1, ih h2]

theorem cut_take (t : List UInt8) (f i : Nat) (hf : f ≤ i) (hi : i < t.length) : (t.drop f).take (i + 1 - f) = (t.drop f).take (i - f) ++ [t[i]] := by
  have h : i - f < (t.drop f).length := by rw [List.length_drop]; omega
  rw [show i + 1 - f = (i - f) + 1 by omega, List.take_succ_eq_append_getElem h]
  congr 2
  rw [List.getElem_drop]
  congr 1; omega

theorem drop_cons {α : Type} (l : List α) (i : Nat) (h : i < l.length) : l.drop i = l[i] :: l.drop (i + 1) := List.drop_eq_getElem_cons h

theorem extract_list (s : ByteArray) (f i : Nat) : (s.extract f i).data.toList = (s.data.toList.drop f).take (i - f) := by
  rw [ByteArray.data_extract, Array.toList_extract, List.extract_eq_take_drop]

theorem cut_loop (s : ByteArray) (hs : s.size ≤ 1048576) (d : Nat) : ∀ (k f i : Nat) (out : List ByteArray), i ≤ s.size → s.size - i = d → f ≤ i → out.length ≤ i → d + 2 ≤ k →
    ∃ r, PReadList.spec_l01Cut.l0 k s 44 out (f : Int) (i : Int) = some r ∧ r.map (·.data.toList) = out.map (·.data.toList) ++ cutL ((s.data.toList.drop f).take (i - f)) (s.data.toList.drop i) := by
  have hsz : s.data.toList.length = s.size := data_length s
  induction d with
  | zero =>
    intro k f i out hi hd hf ho hk
    obtain ⟨k, rfl⟩ : ∃ j, k = j + 1 := ⟨k - 1, by omega⟩
    obtain rfl : i = s.size := by omega
    simp only [PReadList.spec_l01Cut.l0]
    rw [if_pos (by omega), if_pos trivial, if_pos (by omega), if_pos (by omega), if_pos (by omega), wrap_fit (by omega) (by omega)]
    obtain ⟨k, rfl⟩ : ∃ j, k = j + 1 := ⟨k - 1, by omega⟩
    simp only [PReadList.spec_l01Cut.l0]
    rw [if_neg (by omega)]
    refine ⟨_, rfl, ?_⟩
    rw [List.map_append, List.drop_of_length_le (by omega : s.data.toList.length ≤ s.size)]
    rw [List.map_cons, Int.toNat_natCast, Int.toNat_natCast, extract_list]
    rfl
  | succ d ih =>
    intro k f i out hi hd hf ho hk
    obtain ⟨k, rfl⟩ : ∃ j, k = j + 1 := ⟨k - 1, by omega⟩
    have hil : i < s.data.toList.length := by omega
    have hb := bt_get s i hil
    simp only [PReadList.spec_l01Cut.l0]
    rw [if_pos (by omega), if_neg (by omega), if_pos (by omega), if_pos (by omega), hb]
    by_cases hc : s.data.toList[i] = 44
    · rw [if_pos (by rw [hc]; rfl), if_pos (by omega), if_pos (by omega), if_pos (by omega), wrap_fit (by omega) (by omega), show (i : Int) + 1 = ((i + 1 : Nat) : Int) by omega]
      obtain ⟨r, h1, h2⟩ := ih k (i + 1) (i + 1) (out ++ [s.extract (f : Int).toNat (i : Int).toNat]) (by omega) (by omega) (Nat.le_refl _) (by rw [List.length_append]; simp; omega) (by omega)
      refine ⟨r, h1, ?_⟩
      rw [h2, List.map_append, List.append_assoc, drop_cons s.data.toList i hil, hc]
      have e : cutL ((s.data.toList.drop f).take (i - f)) (44 :: s.data.toList.drop (i + 1)) = (s.data.toList.drop f).take (i - f) :: cutL [] (s.data.toList.drop (i + 1)) := if_pos rfl
      rw [e, List.map_cons, Int.toNat_natCast, Int.toNat_natCast, extract_list]
      simp
    · rw [if_neg (by intro h; apply hc; apply UInt8.toNat_inj.1; show _ = 44; omega), wrap_fit (by omega) (by omega), show (i : Int) + 1 = ((i + 1 : Nat) : Int) by omega]
      obtain ⟨r, h1, h2⟩ := ih k f (i + 1) out (by omega) (by omega) (by omega) (by omega) (by omega)
      refine ⟨r, h1, ?_⟩
      have e : cutL ((s.data.toList.drop f).take (i - f)) (s.data.toList[i] :: s.data.toList.drop (i + 1)) = cutL ((s.data.toList.drop f).take (i - f) ++ [s.data.toList[i]]) (s.data.toList.drop (i + 1)) := if_neg hc
      rw [h2, cut_take _ _ _ hf hil, drop_cons s.data.toList i hil, e]

/-- The reference cuts as the library splits. -/
theorem cut_f (s : ByteArray) (hs : s.size ≤ 1048576) (k : Nat) (hk : s.size + 2 ≤ k) : PReadList.spec_l01Cut.f k s 44 = some (cutS s) := by
  obtain ⟨r, h1, h2⟩ := cut_loop s hs s.size k 0 0 [] (Nat.zero_le _) (by omega) (Nat.le_refl _) (Nat.le_refl _) hk
  have e : r = cutS s := by
    apply list_texts
    rw [h2, cutS_lists]
    simp
  rw [e] at h1
  exact h1

/-! ### The numbers of a list's text -/

noncomputable def readAll : List ByteArray → Option (List Int)
  | [] => some []
  | p :: r => match readV p with
    | none => none
    | some n => (readAll r).map (n :: ·)

theorem readAll_len : ∀ (ps : List ByteArray) (l : List Int), readAll ps = some l → l.length = ps.length
  | [], l, h => by cases h; rfl
  | p :: r, l, h => by
    unfold readAll at h
    split at h
    · cases h
    · cases hr : readAll r with
      | none => rw [hr] at h; cases h
      | some l' =>
        rw [hr] at h
        cases h
        simp [readAll_len r l' hr]

/-- What a text reads as. -/
noncomputable def readL (s : ByteArray) : List Int × Bool := if s = noneS then ([], true) else if 64 < (cutS s).length then ([], false) else match readAll (cutS s) with | none => ([], false) | some l => (l, true)

theorem value_mono {s : ByteArray} {r : Int × Bool} (h : PReadList.spec_l01Value.f 100 s = some r) (k : Nat) (hk : 100 ≤ k) : PReadList.spec_l01Value.f k s = some r := by
  induction k with
  | zero => omega
  | succ k ih =>
    by_cases e : 100 = k + 1
    · rw [← e]; exact h
    · exact PReadList.spec_l01Value.mono s k r (ih (by omega))

theorem dec_same (k : Nat) : (∀ a xs r, PReadList.spec_l01Dec.l0 k a xs r = Pl01Value.spec_l01Dec.l0 k a xs r) ∧ (∀ a xs r b, PReadList.spec_l01Dec.j1 k a xs r b = Pl01Value.spec_l01Dec.j1 k a xs r b) := by
  induction k with
  | zero => exact ⟨fun _ _ _ => rfl, fun _ _ _ _ => rfl⟩
  | succ k ih =>
    refine ⟨fun a xs r => ?_, fun a xs r b => ?_⟩
    · simp only [PReadList.spec_l01Dec.l0, Pl01Value.spec_l01Dec.l0, ih.2]
    · simp only [PReadList.spec_l01Dec.j1, Pl01Value.spec_l01Dec.j1, ih.1]

theorem dec_same_f (k : Nat) (a : Int) : PReadList.spec_l01Dec.f k a = Pl01Value.spec_l01Dec.f k a := by
  unfold PReadList.spec_l01Dec.f Pl01Value.spec_l01Dec.f
  exact (dec_same k).1 _ _ _

theorem in_same (a b c : Int) : PReadList.spec_l00In.f a b c = Pl01Value.spec_l00In.f a b c := rfl

theorem value_same (k : Nat) : (∀ s b, PReadList.spec_l01Value.j0 k s b = Pl01Value.spec_l01Value.j0 k s b) ∧ (∀ s a b, PReadList.spec_l01Value.l0 k s a b = Pl01Value.spec_l01Value.l0 k s a b) ∧ (∀ s a, PReadList.spec_l01Value.j2 k s a = Pl01Value.spec_l01Value.j2 k s a) := by
  induction k with
  | zero => exact ⟨fun _ _ => rfl, fun _ _ _ => rfl, fun _ _ => rfl⟩
  | succ k ih =>
    obtain ⟨h0, h1, h2⟩ := ih
    refine ⟨fun s b => ?_, fun s a b => ?_, fun s a => ?_⟩
    · simp only [PReadList.spec_l01Value.j0, Pl01Value.spec_l01Value.j0, h1]
    · simp only [PReadList.spec_l01Value.l0, Pl01Value.spec_l01Value.l0, h1, h2]
    · simp only [PReadList.spec_l01Value.j2, Pl01Value.spec_l01Value.j2, in_same, dec_same_f]

theorem value_f (s : ByteArray) (k : Nat) (hk : 100 ≤ k) : PReadList.spec_l01Value.f k s = some ((readV s).getD 0, (readV s).isSome) := by
  refine value_mono ?_ k hk
  have h := spec_read s
  unfold Pl01Value.spec_l01Value.f at h
  unfold PReadList.spec_l01Value.f
  simp only [(value_same 100).1]
  exact h

theorem rdOf_get (l : List ByteArray) (i : Nat) (h : i < l.length) : rdOf ByteArray.empty l (i : Int) = l[i] := by
  unfold rdOf
  rw [Int.toNat_natCast, List.getD_eq_getElem?_getD, List.getElem?_eq_getElem h]; rfl

theorem numbers_loop (ps : List ByteArray) (hp : ps.length ≤ 64) (d : Nat) : ∀ (k i : Nat) (out : List Int), i ≤ ps.length → ps.length - i = d → d + 101 ≤ k → out.length ≤ i →
    PReadList.spec_l01Numbers.l0 k out ps (i : Int) = some (match readAll (ps.drop i) with | none => ([], false) | some l => (out ++ l, true)) := by
  induction d with
  | zero =>
    intro k i out hi hd hk ho
    obtain ⟨k, rfl⟩ : ∃ j, k = j + 1 := ⟨k - 1, by omega⟩
    simp only [PReadList.spec_l01Numbers.l0]
    rw [if_neg (by omega), List.drop_of_length_le (by omega)]
    simp [readAll]
  | succ d ih =>
    intro k i out hi hd hk ho
    obtain ⟨k, rfl⟩ : ∃ j, k = j + 1 := ⟨k - 1, by omega⟩
    have hil : i < ps.length := by omega
    simp only [PReadList.spec_l01Numbers.l0]
    rw [if_pos (by omega), if_pos (by omega), rdOf_get ps i hil, value_f _ k (by omega), drop_cons ps i hil]
    simp only [Option.bind_some, readAll]
    cases hv : readV ps[i] with
    | none => rfl
    | some n =>
      simp only [Option.isSome_some, if_true, Option.getD_some]
      rw [if_pos (by omega), wrap_fit (by omega) (by omega), show (i : Int) + 1 = ((i + 1 : Nat) : Int) by omega, ih k (i + 1) (out ++ [n]) (by omega) (by omega) (by omega) (by simp; omega)]
      cases readAll (ps.drop (i + 1)) with
      | none => rfl
      | some l => simp

theorem readList_f (s : ByteArray) (hs : s.size ≤ 1048576) : PReadList.spec_ReadList.f (s.size + 300) s = some (readL s) := by
  unfold PReadList.spec_ReadList.f PReadList.spec_l01Numbers.f readL
  simp only [Option.bind_some]
  have e : (s.toList = [110, 111, 110, 101]) ↔ s = noneS := by
    rw [ByteArray.toList_eq]
    constructor
    · intro h
      exact ByteArray.ext (Array.toList_inj.1 h)
    · intro h; rw [h]; rfl
  by_cases hn : s = noneS
  · rw [if_pos (e.2 hn), if_pos hn]; rfl
  · rw [if_neg (fun h => hn (e.1 h)), if_neg hn, cut_f s hs _ (by omega)]
    simp only [Option.bind_some]
    by_cases h64 : 64 < (cutS s).length
    · rw [if_pos (by omega), if_pos h64]; rfl
    · rw [if_neg (by omega), if_neg h64]
      have h := numbers_loop (cutS s) (by omega) (cutS s).length (s.size + 300) 0 [] (Nat.zero_le _) (by omega) (by omega) (Nat.le_refl _)
      have h0 : ((0 : Nat) : Int) = 0 := rfl
      rw [h0, List.drop_zero] at h
      rw [h]
      cases readAll (cutS s) <;> rfl
end Go.Proofs.YtjfoimbeflobkabDoor
namespace Go.Proofs.YtjfoimbeflobkabDoor
open Go.RowKit
set_option linter.unusedVariables false

theorem below_next {w W W1 : World} (h : Below w.heap.size w W) (k : Below W.heap.size W W1) : Below w.heap.size w W1 :=
  h.trans (k.mono h.size)

theorem spec_l01Dec_any (n : Int) (h0 : -9223372036854775808 ≤ n) (h1 : n ≤ 9223372036854775807) (w : World) : Calls Tryd.prog 53 #[.int .i64 n] w fun e w' => e = .returned (.string (decS n)) ∧ Below w.heap.size w w' :=
  Pl01Value.spec_l01Dec.calls 50 n (decS n) w (dec_itoa 50 (Nat.le_refl _) n h0 h1)

theorem impl_Decimal_any (n : Int) (h0 : -9223372036854775808 ≤ n) (h1 : n ≤ 9223372036854775807) (w : World) (ht : Tab w) : Calls Tryd.prog 56 #[.int .i64 n] w fun e w' => e = .returned (.string (decS n)) ∧ Below w.heap.size w w' := by
  have HT : Hid (Tab w) := ht
  clear ht
  go_enter Tryd.func56, Tryd.ntmps56
  go_wp2_with (first | (go_at_call 43; refine (Tryd.strconv_FormatInt_10 _ h0 h1 _ HT.out).mono ?_; rintro e w' ⟨rfl, k, os, rfl⟩) | fail)
  go_ret
  exact ⟨rfl, Lib.below_grow _ w (Nat.le_refl _) k os⟩

end Go.Proofs.YtjfoimbeflobkabDoor
namespace Go.Proofs.YtjfoimbeflobkabDoor
open Go.RowKit
set_option linter.unusedVariables false

def Errs (w : World) : Prop := ∃ tp p tq q, w.var? Tryd.prog "strconv.ErrRange" = some #[.iface tp p] ∧ w.var? Tryd.prog "strconv.ErrSyntax" = some #[.iface tq q]

theorem gErrR : Tryd.prog.globalNamed "strconv.ErrRange" = some 3 := by kernel_rfl
theorem gErrS : Tryd.prog.globalNamed "strconv.ErrSyntax" = some 2 := by kernel_rfl

theorem var_lt {w : World} {n : String} {g : Nat} {v : Value} (hg : Tryd.prog.globalNamed n = some g) (h : w.var? Tryd.prog n = some #[v]) : g < w.heap.size := by
  have := World.var?_cell hg h 0
  exact World.block_lt_of_cell? w ⟨g, 0, none⟩ (u := v) (by simpa using this)

theorem Errs.below {w w' : World} (h : Errs w) (hb : Below w.heap.size w w') : Errs w' := by
  obtain ⟨tp, p, tq, q, h1, h2⟩ := h
  exact ⟨tp, p, tq, q, var?_below hb gErrR (var_lt gErrR h1) h1, var?_below hb gErrS (var_lt gErrS h2) h2⟩

/-- The dynamic type's name that the listed data bear. -/
def starName : String := match (Rows.laid_strconv_ErrRange (H := Unit)) with | .iface n _ => n | _ => default

theorem errRow (u : TypeId) (h : Tryd.prog.typeName? 3 u = some starName) : u = 128 :=
  typeName_ptr_named (nm := "errors.errorString") (by kernel_rfl) (by kernel_rfl) (by decide) u (h.trans (by decide))

theorem Errs.of {w : World} {r : List (String × DataW Unit)} (h : laidMet Tryd.prog (("strconv.ErrRange", Rows.laid_strconv_ErrRange) :: ("strconv.ErrSyntax", Rows.laid_strconv_ErrSyntax) :: r) w) : Errs w := by
  obtain ⟨a0, _, h0, _⟩ := laid_sentinel (nm := starName) (ti := 66) (tp := 128) (te := 130) (ts := 9) h gErrR (by kernel_rfl) Tryd.underlying66 errRow Tryd.underlying128 Tryd.underlying130 rfl rfl Tryd.underlying9 (by kernel_rfl) (by kernel_rfl)
  obtain ⟨a1, _, h1, _⟩ := laid_sentinel (nm := starName) (ti := 66) (tp := 128) (te := 130) (ts := 9) (laidMet.tail h) gErrS (by kernel_rfl) Tryd.underlying66 errRow Tryd.underlying128 Tryd.underlying130 rfl rfl Tryd.underlying9 (by kernel_rfl) (by kernel_rfl)
  exact ⟨_, _, _, _, h0, h1⟩
end Go.Proofs.YtjfoimbeflobkabDoor
namespace Go.Proofs.YtjfoimbeflobkabDoor
open Go.RowKit
set_option linter.unusedVariables false

theorem impl_isValue (n : Int) (w : World) : Calls Tryd.prog 55 #[.int .i64 n] w fun e w' => e = .returned (.bool (inR n (-1000000000000000) 1000000000000000)) ∧ w = w' := by
  go_enter Tryd.func55, Tryd.ntmps55
  go_wp2_with (first | (go_at_call 69; refine (impl_within _ _ _ _).mono ?_; rintro e w' ⟨rfl, rfl⟩) | fail)
  go_ret
  exact ⟨rfl, rfl⟩

theorem impl_ReadDecimal (s : ByteArray) (hs : s.size ≤ 1048576) (w : World) (ht : Tab w) (he : Errs w) :
    Calls Tryd.prog 41 #[.string s] w fun e w' => e = .returned (.tuple #[.int .i64 ((readV s).getD 0), .bool (readV s).isSome]) ∧ Below w.heap.size w w' := by
  obtain ⟨tp, p, tq, q, hR, hS⟩ := he
  rcases hp : Lib.parseIntB 64 s.data.toList with v | _ | _
  · skip
    have HP := Lib.hid hp
    have HT : Hid (Tab w) := ht
    have hw : ∀ w1 : World, (w1 = w ∨ ∃ t, w1 = Lib.bytesWorld w 5 t) → Below w.heap.size w w1 := by
      rintro w1 (rfl | ⟨t, rfl⟩)
      · exact Below.refl _ _
      · exact Lib.bytesWorld_below _ _ _
    by_cases h0 : -1000000000000000 ≤ v ∧ v ≤ 1000000000000000
    · have hin := inR_true h0.1 h0.2
      by_cases hd : decS v = s
      · rw [readV_some h0.1 h0.2 hd]
        have hne : (!((decS v).toList == s.toList)) = false := by rw [hd]; simp
        have HW : Hid (∀ w1 : World, (w1 = w ∨ ∃ t, w1 = Lib.bytesWorld w 5 t) → Below w.heap.size w w1) := hw
        have H0 : Hid (-1000000000000000 ≤ v ∧ v ≤ 1000000000000000) := h0
        clear hp hd hw ht hR hS h0
        go_enter Tryd.func41, Tryd.ntmps41
        go_wp2_with (first | (go_at_call 54; refine (Tryd.strconv_ParseInt_10_at64_ok s (by omega) v HP.out _).mono ?_; rintro e w1 ⟨rfl, hw1⟩; have hb1 := HW.out _ hw1; clear hw1) | (go_at_call 55; refine (impl_isValue _ _).mono ?_; rintro e w' ⟨rfl, rfl⟩) | (go_at_call 56; refine (impl_Decimal_any v (by have := H0.out; omega) (by have := H0.out; omega) _ (HT.out.below hb1)).mono ?_; rintro e w2 ⟨rfl, hb2⟩) | fail)
        go_ret2
        exact ⟨rfl, below_next hb1 hb2⟩
      · have hnone : readV s = none := readV_none (fun n k0 k1 hn => by
          have := parse_itoa n k0 k1
          rw [← decS_list, hn, hp] at this
          injection this with this
          subst this
          exact hd hn)
        rw [hnone]
        have hne : (!((decS v).toList == s.toList)) = true := by
          simp only [Bool.not_eq_true', beq_eq_false_iff_ne, ne_eq]
          intro h
          apply hd
          rw [ByteArray.toList_eq, ByteArray.toList_eq] at h
          exact ByteArray.ext (Array.toList_inj.1 h)
        have HW : Hid (∀ w1 : World, (w1 = w ∨ ∃ t, w1 = Lib.bytesWorld w 5 t) → Below w.heap.size w w1) := hw
        have H0 : Hid (-1000000000000000 ≤ v ∧ v ≤ 1000000000000000) := h0
        clear hp hd hw ht hR hS h0 hnone
        go_enter Tryd.func41, Tryd.ntmps41
        go_wp2_with (first | (go_at_call 54; refine (Tryd.strconv_ParseInt_10_at64_ok s (by omega) v HP.out _).mono ?_; rintro e w1 ⟨rfl, hw1⟩; have hb1 := HW.out _ hw1; clear hw1) | (go_at_call 55; refine (impl_isValue _ _).mono ?_; rintro e w' ⟨rfl, rfl⟩) | (go_at_call 56; refine (impl_Decimal_any v (by have := H0.out; omega) (by have := H0.out; omega) _ (HT.out.below hb1)).mono ?_; rintro e w2 ⟨rfl, hb2⟩) | fail)
        go_ret2
        exact ⟨rfl, below_next hb1 hb2⟩
    · have hin := inR_false (n := v) (lo := -1000000000000000) (hi := 1000000000000000) (by omega)
      have hnone : readV s = none := readV_none (fun n k0 k1 hn => by
        have := parse_itoa n k0 k1
        rw [← decS_list, hn, hp] at this
        injection this with this
        subst this
        exact h0 ⟨k0, k1⟩)
      rw [hnone]
      have HW : Hid (∀ w1 : World, (w1 = w ∨ ∃ t, w1 = Lib.bytesWorld w 5 t) → Below w.heap.size w w1) := hw
      clear hp hw ht hR hS h0 hnone
      go_enter Tryd.func41, Tryd.ntmps41
      go_wp2_with (first | (go_at_call 54; refine (Tryd.strconv_ParseInt_10_at64_ok s (by omega) v HP.out _).mono ?_; rintro e w1 ⟨rfl, hw1⟩; have hb1 := HW.out _ hw1; clear hw1) | (go_at_call 55; refine (impl_isValue _ _).mono ?_; rintro e w' ⟨rfl, rfl⟩) | fail)
      go_ret2
      exact ⟨rfl, hb1⟩
  · skip
    have hnone : readV s = none := readV_none (fun n h0 h1 hn => by
      have := parse_itoa n h0 h1
      rw [← decS_list, hn, hp] at this
      cases this)
    rw [hnone]
    have HS : Hid (w.var? Tryd.prog "strconv.ErrSyntax" = some #[.iface tq q]) := hS
    have HP := Lib.hid hp
    clear hR hS hp hnone ht
    go_enter Tryd.func41, Tryd.ntmps41
    go_wp2_with (first | (go_at_call 54; refine (Tryd.strconv_ParseInt_10_at64_syntax_var s (by omega) HP.out tq q _ HS.out).mono ?_; rintro e w1 ⟨N, rfl, hN, hc, hb1⟩) | fail)
    go_ret2
    exact ⟨rfl, hb1⟩
  · skip
    have hnone : readV s = none := readV_none (fun n h0 h1 hn => by
      have := parse_itoa n h0 h1
      rw [← decS_list, hn, hp] at this
      cases this)
    rw [hnone]
    have HS : Hid (w.var? Tryd.prog "strconv.ErrRange" = some #[.iface tp p]) := hR
    have HP := Lib.hid hp
    clear hR hS hp hnone ht
    go_enter Tryd.func41, Tryd.ntmps41
    go_wp2_with (first | (go_at_call 54; refine (Tryd.strconv_ParseInt_10_at64_range_var s (by omega) HP.out tp p _ HS.out).mono ?_; rintro e w1 ⟨N, rfl, hN, hc, hb1⟩) | fail)
    go_ret2
    exact ⟨rfl, hb1⟩

theorem spec_l01Value_any (s : ByteArray) (w : World) : Calls Tryd.prog 40 #[.string s] w fun e w' => e = .returned (.tuple #[.int .i64 ((readV s).getD 0), .bool (readV s).isSome]) ∧ Below w.heap.size w w' :=
  Pl01Value.spec_l01Value.calls 100 s _ _ w (spec_read s)

end Go.Proofs.YtjfoimbeflobkabDoor
namespace Go.Proofs.YtjfoimbeflobkabDoor
open Go.RowKit Go.Proofs.YtjfoimbeflobkabDoorW.PrintWords
set_option linter.unusedVariables false

/-- The library's variable of a greatest length holds some number. -/
def MaxSome (w : World) : Prop := ∃ m : Int, w.cell? ⟨4, 0, none⟩ = some (.int .i64 m)
theorem MaxSome.below {w w' : World} (h : MaxSome w) (hb : Below w.heap.size w w') : MaxSome w' := by
  obtain ⟨m, hm⟩ := h
  exact ⟨m, (hb.cell (World.block_lt_of_cell? _ _ hm)).trans hm⟩

noncomputable def piecesV (s : ByteArray) : List ByteArray := if s = noneS then [] else cutS s

theorem cutS_len (s : ByteArray) : (cutS s).length = Lib.countB s commaS + 1 := Lib.splitB_all commaS (by decide) 0 _ s rfl

theorem ne_noneS {s : ByteArray} (h : s ≠ noneS) : (s.toList == ([110, 111, 110, 101] : List UInt8)) = false := by
  rw [beq_eq_false_iff_ne]
  intro e
  rw [ByteArray.toList_eq] at e
  exact h (ByteArray.ext (Array.toList_inj.1 e))

theorem impl_pieces (s : ByteArray) (hs : s.size ≤ 1048576) (w : World) (hm : MaxSome w) :
    Calls Tryd.prog 36 #[.string s] w fun e w' => ∃ v : Value, e = .returned v ∧ Kd.R Kd.string 9 w' w.heap.size (fun _ => True) v (piecesV s) ∧ Below w.heap.size w w' := by
  by_cases hn : s = noneS
  · subst hn
    have e : piecesV noneS = [] := if_pos rfl
    rw [e]
    clear hs e hm
    have b0 : (noneS.toList == ([110, 111, 110, 101] : List UInt8)) = true := by rw [ByteArray.toList_eq]; decide
    go_enter Tryd.func36, Tryd.ntmps36
    go_wp2_with fail
    go_ret
    exact ⟨_, rfl, Kd.R_nil _ _ _ _ _, Below.refl _ _⟩
  · have e : piecesV s = cutS s := if_neg hn
    rw [e]
    have b0 := ne_noneS hn
    obtain ⟨m, hm⟩ := hm
    have HM : Hid (w.cell? ⟨4, 0, none⟩ = some (.int .i64 m)) := hm
    have hl := cutS_len s
    have hle := Lib.countB_le commaS (by decide) s.size s (Nat.le_refl _)
    have hR : Kd.R Kd.string 9 (w.alloc (.cells ((cutS s).map Value.string).toArray 9)) w.heap.size (fun _ => True) (.slice (some ⟨w.heap.size, 0, none⟩) (Lib.countB s commaS + 1) (Lib.countB s commaS + 1)) (cutS s) := by
      rw [← hl]
      exact Kd.R_of_own (own_lit_of (enc := Value.string) w w.heap.size 9 (cutS s) (Nat.le_refl _) (by omega)) (fun _ _ => trivial)
    have HR : Hid (Kd.R Kd.string 9 (w.alloc (.cells ((cutS s).map Value.string).toArray 9)) w.heap.size (fun _ => True) (.slice (some ⟨w.heap.size, 0, none⟩) (Lib.countB s commaS + 1) (Lib.countB s commaS + 1)) (cutS s)) := hR
    clear hm hn e hR hl hle
    go_enter Tryd.func36, Tryd.ntmps36
    go_wp2_with (first | (go_at_call 49; refine (Tryd.strings_Split s ⟨#[44]⟩ m _ (Nat.lt_of_le_of_lt hs (by decide)) HM.out (by decide)).mono ?_; rintro e w1 ⟨rfl, rfl⟩) | fail)
    go_ret
    exact ⟨_, rfl, HR.out, Below.alloc (Below.refl _ _) (Nat.le_refl _) _⟩

/-- What the program's loop returns. -/
noncomputable def rdL (s : ByteArray) : List Int × Bool := match readAll (piecesV s) with | none => ([], false) | some l => (l, true)

/-- The numbers of the first pieces, all read. -/
theorem readAll_snoc : ∀ (ps : List ByteArray) (p : ByteArray) (l : List Int) (n : Int), readAll ps = some l → readV p = some n → readAll (ps ++ [p]) = some (l ++ [n])
  | [], p, l, n, h, hn => by cases h; simp [readAll, hn]
  | q :: r, p, l, n, h, hn => by
    unfold readAll at h
    cases hq : readV q with
    | none => rw [hq] at h; cases h
    | some a =>
      rw [hq] at h
      cases hr : readAll r with
      | none => rw [hr] at h; cases h
      | some l' =>
        rw [hr] at h
        cases h
        rw [List.cons_append]
        unfold readAll
        rw [hq, readAll_snoc r p l' n hr hn]
        rfl

theorem readAll_stop : ∀ (ps : List ByteArray) (p : ByteArray) (r : List ByteArray), readV p = none → readAll (ps ++ p :: r) = none
  | [], p, r, h => by simp [readAll, h]
  | q :: t, p, r, h => by
    rw [List.cons_append]
    unfold readAll
    cases readV q with
    | none => rfl
    | some a => rw [readAll_stop t p r h]; rfl

theorem piece_size (s : ByteArray) (hs : s.size ≤ 1048576) : ∀ p ∈ piecesV s, p.size ≤ 1048576 := by
  have hk : ∀ (l cur : List UInt8), ∀ q ∈ cutL cur l, q.length ≤ cur.length + l.length := by
    intro l
    induction l with
    | nil => intro cur q hq; rw [List.mem_singleton.1 hq]; simp
    | cons c r ih =>
      intro cur q hq
      unfold cutL at hq
      split at hq
      · rcases List.mem_cons.1 hq with rfl | hq
        · simp
        · have := ih [] q hq; simp at this ⊢; omega
      · have := ih _ q hq; simp at this ⊢; omega
  intro p hp
  unfold piecesV at hp
  split at hp
  · cases hp
  · have h1 : p.data.toList ∈ (cutS s).map (·.data.toList) := List.mem_map.2 ⟨p, hp, rfl⟩
    rw [cutS_lists] at h1
    have h2 := hk _ _ _ h1
    rw [data_length, data_length] at h2
    simp at h2; omega

theorem piecesV_len (s : ByteArray) (hs : s.size ≤ 1048576) : (piecesV s).length ≤ 1048577 := by
  unfold piecesV
  split
  · simp
  · rw [cutS_len]
    have := Lib.countB_le commaS (by decide) s.size s (Nat.le_refl _)
    omega

theorem impl_readList (s : ByteArray) (hs : s.size ≤ 1048576) (w : World) (hm : MaxSome w) (ht : Tab w) (he : Errs w) :
    Calls Tryd.prog 28 #[.string s] w fun e w' => ∃ v : Value, e = .returned (.tuple #[v, .bool (rdL s).2]) ∧ Kd.R (Kd.int .i64) 2 w' w.heap.size (fun _ => True) v (rdL s).1 ∧ Below w.heap.size w w' := by
  have HM : Hid (MaxSome w) := hm
  have HT : Hid (Tab w) := ht
  have HE : Hid (Errs w) := he
  have hps := piece_size s hs
  have hpl := piecesV_len s hs
  obtain ⟨ps, hp⟩ : ∃ ps, ps = piecesV s := ⟨_, rfl⟩
  obtain ⟨rl, rb, hr⟩ : ∃ rl rb, rdL s = (rl, rb) := ⟨_, _, rfl⟩
  have hN : readAll ps = none → rl = [] ∧ rb = false := by
    intro h
    have e : rdL s = ([], false) := by unfold rdL; rw [← hp, h]
    rw [hr] at e
    exact Prod.mk.inj e
  have hS : ∀ l, readAll ps = some l → rl = l ∧ rb = true := by
    intro l h
    have e : rdL s = (l, true) := by unfold rdL; rw [← hp, h]
    rw [hr] at e
    exact Prod.mk.inj e
  rw [← hp] at hps hpl
  rw [hr]
  have HP : Hid (ps = piecesV s) := hp
  have HPS : Hid (∀ p ∈ ps, p.size ≤ 1048576) := hps
  have HN : Hid (readAll ps = none → rl = [] ∧ rb = false) := hN
  have HS : Hid (∀ l, readAll ps = some l → rl = l ∧ rb = true) := hS
  clear hm ht he hps hp hr hN hS
  have hb0 : ∀ o : Obj, Below w.heap.size w (w.alloc o) := fun o => Below.alloc (Below.refl _ _) (Nat.le_refl _) _
  have HB0 : Hid (∀ o : Obj, Below w.heap.size w (w.alloc o)) := hb0
  have hmade : ∀ t : Nat, Kd.R (Kd.int .i64) 2 (w.alloc (.cells #[] 2)) w.heap.size (fun _ => True) (.slice (some ⟨w.heap.size, 0, none⟩) 0 0) [] := fun _ => Kd.R_of_own (own_lit_of (enc := Value.int .i64) w w.heap.size 2 [] (Nat.le_refl _) (by decide)) (fun _ _ => trivial)
  have HMADE : Hid (Kd.R (Kd.int .i64) 2 (w.alloc (.cells #[] 2)) w.heap.size (fun _ => True) (.slice (some ⟨w.heap.size, 0, none⟩) 0 0) []) := hmade 0
  clear hb0 hmade
  go_enter Tryd.func28, Tryd.ntmps28
  go_wp2_with (first | (go_at_call 36; refine (impl_pieces s hs _ (HM.out.below (HB0.out _))).mono ?_; rintro e w1 ⟨v1, rfl, hR1, hb1⟩; have hb1' : Below w.heap.size w w1 := below_next (HB0.out _) hb1; rw [← HP.out] at hR1; obtain ⟨A1, c1, rfl⟩ := Kd.R_slice hR1; have HR1 : Hid (Kd.R Kd.string 9 w1 w.heap.size (fun _ => True) (.slice A1 ps.length c1) ps) := Kd.R_lower hR1 (by simp); have HO1 := Lib.hid (Kd.R_below HMADE.out hb1); clear hR1) | fail)
  go_loopw [4, 13] (fun t i wr => ∃ (k : Nat) (l : List Int), k ≤ ps.length ∧ i = .int .i64 (k : Int) ∧ Hid (readAll (ps.take k) = some l) ∧ Hid (Kd.R (Kd.int .i64) 2 wr w.heap.size (fun _ => True) t l) ∧ Hid (Kd.R Kd.string 9 wr w.heap.size (fun _ => True) (.slice A1 ps.length c1) ps) ∧ Below w.heap.size w wr) (fun _ i _ => ps.length - (intOf i).toNat)
  case atStart => exact ⟨0, [], Nat.zero_le _, rfl, by exact rfl, by exact HO1.out, by exact HR1.out, hb1'⟩
  case round =>
    obtain ⟨k, l, hk, rfl, hrd, hO, hP, hb⟩ := hrel
    clear HR1 HO1 hb1 hb1' HMADE
    have hll : l.length = k := by have := readAll_len _ _ hrd.out; rw [this, List.length_take]; omega
    by_cases hlt : k < ps.length
    · have b1 : (k : Int) < (ps.length : Int) := by omega
      have b2 : (0 : Int) ≤ (k : Int) := by omega
      have b3 : (k : Int) ≤ 1048577 := by omega
      obtain ⟨ad, rfl, hc⟩ := Kd.at_string (Kd.R_reads' hP.out).2.2 (k : Int) b2 b1
      rw [rdOf_get ps k hlt, Int.toNat_natCast] at hc
      have hq := HPS.out ps[k] (List.getElem_mem hlt)
      have hrc := impl_ReadDecimal ps[k] hq
      cases hv : readV ps[k] with
      | none =>
        have hnone : readAll ps = none := by
          have h := readAll_stop (ps.take k) ps[k] (ps.drop (k + 1)) hv
          rw [← drop_cons ps k hlt, List.take_append_drop] at h
          exact h
        obtain ⟨rfl, rfl⟩ := HN.out hnone
        rw [hv] at hrc
        have HRC : Hid (∀ w : World, Tab w → Errs w → Calls Tryd.prog 41 #[.string ps[k]] w fun e w' => e = .returned (.tuple #[.int .i64 0, .bool false]) ∧ Below w.heap.size w w') := hrc
        clear hrc hv hq hnone HN HS
        go_wp2_with (first | (go_at_call 41; refine (HRC.out _ (HT.out.below hb) (HE.out.below hb)).mono ?_; rintro e w2 ⟨rfl, hb2⟩) | fail)
        go_ret2
        exact ⟨_, rfl, Kd.R_nil _ _ _ _ _, below_next hb hb2⟩
      | some n =>
        rw [hv] at hrc
        have HRC : Hid (∀ w : World, Tab w → Errs w → Calls Tryd.prog 41 #[.string ps[k]] w fun e w' => e = .returned (.tuple #[.int .i64 n, .bool true]) ∧ Below w.heap.size w w') := hrc
        have hsn : readAll (ps.take (k + 1)) = some (l ++ [n]) := by
          rw [List.take_succ_eq_append_getElem hlt]
          exact readAll_snoc _ _ _ _ hrd.out hv
        have HSN : Hid (readAll (ps.take (k + 1)) = some (l ++ [n])) := hsn
        clear hrc hv hq hsn
        go_wp2_with (first | (go_at_call 41; refine (HRC.out _ (HT.out.below hb) (HE.out.below hb)).mono ?_; rintro e w2 ⟨rfl, hb2⟩; have K2 : Below w.heap.size w w2 := below_next hb hb2; have O2 := Lib.hid (Kd.R_below hO.out hb2); have P2 := Lib.hid (Kd.R_below hP.out hb2)) | (at_builtin; refine Kd.R_append (Kd.int .i64) (w0 := w) w.heap.size rfl (.tmp 24) (.tmp 26) 22 2 (.int .i64 0) 8 rfl Tryd.underlying22 (by kernel_rfl) rfl (by decide) (by omega) u4 l n [.int .i64 n] (fun _ => True) (fun _ => False) rfl rfl rfl (fun _ hk => hk.elim) (fun _ _ => trivial) O2.out K2 K2.size (by omega) ?_; intro v3 w3 hO3 K3 hg3 hat3; have O3 := Lib.hid hO3; have P3 := Lib.hid (Kd.R_over' P2.out (Kd.R_typed O2.out) (by decide) hg3); clear hat3 hg3 hO3) | fail)
        go_roundw
        case rel => exact ⟨k + 1, l ++ [n], hlt, by simp, by exact HSN.out, by exact O3.out, by exact P3.out, K3⟩
        case measure => simp [intOf]; omega
    · obtain rfl : k = ps.length := by omega
      have hfin : readAll ps = some l := by have := hrd.out; rw [List.take_length] at this; exact this
      obtain ⟨rfl, rfl⟩ := HS.out _ hfin
      clear hfin HN HS
      go_wp2_with fail
      go_ret2
      exact ⟨_, rfl, hO.out, hb⟩

theorem readL_eq (s : ByteArray) : readL s = if (rdL s).2 = true ∧ (rdL s).1.length ≤ 64 then rdL s else ([], false) := by
  unfold readL rdL piecesV
  by_cases hn : s = noneS
  · rw [if_pos hn, if_pos hn]
    simp [readAll]
  · rw [if_neg hn, if_neg hn]
    cases h : readAll (cutS s) with
    | none => simp
    | some l =>
      have := readAll_len _ _ h
      by_cases h64 : 64 < (cutS s).length
      · rw [if_pos h64, if_neg (by simp; omega)]
      · rw [if_neg h64, if_pos (by simp; omega)]

theorem readL_len (s : ByteArray) : (readL s).1.length ≤ 64 := by
  rw [readL_eq]
  split
  · rename_i h; exact h.2
  · simp

theorem impl_ReadList (s : ByteArray) (hs : s.size ≤ 1048576) (w : World) (hm : MaxSome w) (ht : Tab w) (he : Errs w) :
    Calls Tryd.prog 9 #[.string s] w fun e w' => ∃ v : Value, e = .returned (.tuple #[v, .bool (readL s).2]) ∧ Kd.R (Kd.int .i64) 2 w' w.heap.size (fun _ => True) v (readL s).1 ∧ Below w.heap.size w w' := by
  have h := impl_readList s hs w hm ht he
  rw [readL_eq]
  obtain ⟨l, b, hlb⟩ : ∃ l b, rdL s = (l, b) := ⟨_, _, rfl⟩
  rw [hlb] at h ⊢
  have H : Hid (Calls Tryd.prog 28 #[.string s] w fun e w' => ∃ v : Value, e = .returned (.tuple #[v, .bool b]) ∧ Kd.R (Kd.int .i64) 2 w' w.heap.size (fun _ => True) v l ∧ Below w.heap.size w w') := h
  clear h hlb hm ht he
  cases b
  · rw [if_neg (by simp)]
    go_enter Tryd.func9, Tryd.ntmps9
    go_wp2_with (first | (go_at_call 28; refine H.out.mono ?_; rintro e w1 ⟨v, rfl, hR, hb1⟩; obtain ⟨A1, c1, rfl⟩ := Kd.R_slice hR; clear hR) | fail)
    go_ret2
    exact ⟨_, rfl, Kd.R_nil _ _ _ _ _, hb1⟩
  · by_cases hl : l.length ≤ 64
    · rw [if_pos ⟨rfl, hl⟩]
      have b1 : ¬ (64 : Int) < (l.length : Int) := by omega
      go_enter Tryd.func9, Tryd.ntmps9
      go_wp2_with (first | (go_at_call 28; refine H.out.mono ?_; rintro e w1 ⟨v, rfl, hR, hb1⟩; obtain ⟨A1, c1, rfl⟩ := Kd.R_slice hR; have HR := Lib.hid hR; clear hR) | fail)
      go_ret2
      exact ⟨_, rfl, HR.out, hb1⟩
    · rw [if_neg (fun h => hl h.2)]
      have b1 : (64 : Int) < (l.length : Int) := by omega
      go_enter Tryd.func9, Tryd.ntmps9
      go_wp2_with (first | (go_at_call 28; refine H.out.mono ?_; rintro e w1 ⟨v, rfl, hR, hb1⟩; obtain ⟨A1, c1, rfl⟩ := Kd.R_slice hR; clear hR) | fail)
      go_ret2
      exact ⟨_, rfl, Kd.R_nil _ _ _ _ _, hb1⟩
end Go.Proofs.YtjfoimbeflobkabDoor
namespace Go.Proofs.YtjfoimbeflobkabDoor
open Fl Go.RowKit Go.Proofs.YtjfoimbeflobkabDoorW.PrintWords
set_option linter.unusedVariables false

/-- A small digit's value. -/
def lHex (c : UInt8) : Option Nat :=
  if 48 ≤ c.toNat ∧ c.toNat ≤ 57 then some (c.toNat - 48) else if 97 ≤ c.toNat ∧ c.toNat ≤ 102 then some (c.toNat - 87) else none

def lVal (acc : Nat) : List UInt8 → Option Nat
  | [] => some acc
  | c :: r => match lHex c with
    | none => none
    | some d => lVal (acc * 16 + d) r

theorem lHex_hexD (d : Nat) (h : d < 16) : lHex (hexD d) = some d ∧ pHex (hexD d) = some d := by
  have k : ∀ d : Fin 16, lHex (hexD d.val) = some d.val ∧ pHex (hexD d.val) = some d.val := by decide
  exact k ⟨d, h⟩

theorem lHex_some {c : UInt8} {d : Nat} (h : lHex c = some d) : d < 16 ∧ c = hexD d := by
  unfold lHex at h
  split at h
  · rename_i h1
    cases h
    refine ⟨by omega, ?_⟩
    unfold hexD
    rw [if_pos (by omega), show 48 + (c.toNat - 48) = c.toNat by omega]
    exact UInt8.ofNat_toNat.symm
  · split at h
    · rename_i h1
      cases h
      refine ⟨by omega, ?_⟩
      unfold hexD
      rw [if_neg (by omega), show 87 + (c.toNat - 87) = c.toNat by omega]
      exact UInt8.ofNat_toNat.symm
    · cases h

theorem lVal_snoc : ∀ (l : List UInt8) (acc : Nat) (c : UInt8), lVal acc (l ++ [c]) = (lVal acc l).bind fun a => (lHex c).map fun d => a * 16 + d
  | [], acc, c => by
    simp only [List.nil_append, lVal, Option.bind_some]
    cases lHex c <;> rfl
  | x :: r, acc, c => by
    simp only [List.cons_append, lVal]
    cases lHex x with
    | none => rfl
    | some d => exact lVal_snoc r _ c

theorem pVal_snoc : ∀ (l : List UInt8) (acc : Nat) (c : UInt8), pVal acc (l ++ [c]) = (pVal acc l).bind fun a => (pHex c).map fun d => a * 16 + d
  | [], acc, c => by
    simp only [List.nil_append, pVal, Option.bind_some]
    cases pHex c <;> rfl
  | x :: r, acc, c => by
    simp only [List.cons_append, pVal]
    cases pHex x with
    | none => rfl
    | some d => exact pVal_snoc r _ c

theorem val_hexFix : ∀ (k n : Nat), n < 16 ^ k → lVal 0 (hexFix k n) = some n ∧ pVal 0 (hexFix k n) = some n
  | 0, n, h => by
    obtain rfl : n = 0 := by simp at h; omega
    exact ⟨rfl, rfl⟩
  | k + 1, n, h => by
    have hk : n / 16 < 16 ^ k := by rw [Nat.pow_succ] at h; omega
    obtain ⟨h1, h2⟩ := val_hexFix k (n / 16) hk
    obtain ⟨d1, d2⟩ := lHex_hexD (n % 16) (Nat.mod_lt _ (by decide))
    have e : n / 16 * 16 + n % 16 = n := by omega
    refine ⟨?_, ?_⟩
    · show lVal 0 (hexFix k (n / 16) ++ [hexD (n % 16)]) = _
      rw [lVal_snoc, h1, d1]
      simp [e]
    · show pVal 0 (hexFix k (n / 16) ++ [hexD (n % 16)]) = _
      rw [pVal_snoc, h2, d2]
      simp [e]

theorem lVal_digits : ∀ (k : Nat) (l : List UInt8) (n : Nat), l.length = k → lVal 0 l = some n → l = hexFix k n ∧ n < 16 ^ k
  | 0, l, n, hl, h => by
    obtain rfl : l = [] := List.length_eq_zero_iff.1 hl
    cases h
    exact ⟨rfl, by decide⟩
  | k + 1, l, n, hl, h => by
    have hne : l ≠ [] := by intro e; rw [e] at hl; cases hl
    obtain ⟨i, c, rfl⟩ : ∃ i c, l = i ++ [c] := ⟨l.dropLast, l.getLast hne, (List.dropLast_concat_getLast hne).symm⟩
    rw [lVal_snoc] at h
    cases ha : lVal 0 i with
    | none => rw [ha] at h; cases h
    | some a =>
      rw [ha] at h
      cases hc : lHex c with
      | none => rw [hc] at h; cases h
      | some d =>
        rw [hc] at h
        have hn : a * 16 + d = n := Option.some.inj h
        obtain ⟨hd, rfl⟩ := lHex_some hc
        obtain ⟨e1, e2⟩ := lVal_digits k i a (by simpa using hl) ha
        refine ⟨?_, by rw [Nat.pow_succ]; omega⟩
        show i ++ [hexD d] = hexFix k (n / 16) ++ [hexD (n % 16)]
        rw [show n / 16 = a by omega, show n % 16 = d by omega, ← e1]

/-- What the program reads a piece as. -/
def rh (p : ByteArray) : Nat := (pVal 0 p.data.toList).getD 0

/-- What the reference reads a piece as. -/
def lRead (p : ByteArray) : Option Nat :=
  if p.size = 8 then match lVal 0 p.data.toList with
    | none => none
    | some n => if bitsV (val .f32 n) = (n : Int) then some n else none
  else none

def lAll : List ByteArray → Option (List Nat)
  | [] => some []
  | p :: r => match lRead p with
    | none => none
    | some n => (lAll r).map (n :: ·)

theorem rh_lt (p : ByteArray) (h8 : p.size = 8) : rh p < 4294967296 := by
  unfold rh
  have k : ∀ (l : List UInt8) (acc : Nat), (pVal acc l).getD 0 < (acc + 1) * 16 ^ l.length := by
    intro l
    induction l with
    | nil => intro acc; simp [pVal]
    | cons c r ih =>
      intro acc
      unfold pVal
      cases hc : pHex c with
      | none =>
        show 0 < (acc + 1) * 16 ^ (r.length + 1)
        exact Nat.mul_pos (Nat.succ_pos _) (Nat.pow_pos (by decide))
      | some d =>
        have hd : d < 16 := by
          unfold pHex at hc
          split at hc
          · cases hc; omega
          · split at hc
            · cases hc; omega
            · cases hc
        refine Nat.lt_of_lt_of_le (ih _) ?_
        rw [List.length_cons, Nat.pow_succ, Nat.mul_comm (16 ^ r.length) 16, ← Nat.mul_assoc]
        exact Nat.mul_le_mul_right _ (by omega)
  have := k p.data.toList 0
  rw [data_length, h8] at this
  exact Nat.lt_of_lt_of_le this (by decide)

/-- A piece of eight signs is the digits of what the program reads it as, just when the reference reads it; and then both read it alike. -/
theorem piece_law (p : ByteArray) (h8 : p.size = 8) : (p = hx (rh p) ↔ ∃ n, lRead p = some n) ∧ ∀ n, lRead p = some n → n = rh p := by
  have hl : p.data.toList.length = 8 := by rw [data_length]; exact h8
  have hB : ∀ n, lRead p = some n → p.data.toList = hexFix 8 n ∧ n < 4294967296 ∧ bitsV (val .f32 n) = (n : Int) := by
    intro n h
    unfold lRead at h
    rw [if_pos h8] at h
    cases hv : lVal 0 p.data.toList with
    | none => rw [hv] at h; cases h
    | some m =>
      rw [hv] at h
      simp only at h
      split at h
      · rename_i hb
        cases h
        obtain ⟨e1, e2⟩ := lVal_digits 8 _ _ hl hv
        exact ⟨e1, e2, hb⟩
      · cases h
  have hC : ∀ n, lRead p = some n → n = rh p := by
    intro n h
    obtain ⟨e1, e2, _⟩ := hB n h
    unfold rh
    rw [e1, (val_hexFix 8 n e2).2]
    rfl
  refine ⟨⟨fun h => ?_, fun ⟨n, h⟩ => ?_⟩, hC⟩
  · have hr := rh_lt p h8
    obtain ⟨b0, b1⟩ := bitsV_range hr
    obtain ⟨m, hm⟩ : ∃ m : Nat, bitsV (val .f32 (rh p)) = (m : Int) := ⟨(bitsV (val .f32 (rh p))).toNat, by omega⟩
    have hm4 : m < 4294967296 := by omega
    have hp : p.data.toList = hexFix 8 m := by
      rw [h]
      unfold hx hexS
      rw [hm, Int.toNat_natCast]
    have hrm : rh p = m := by
      unfold rh
      rw [hp, (val_hexFix 8 m hm4).2]
      rfl
    refine ⟨m, ?_⟩
    unfold lRead
    rw [if_pos h8, hp, (val_hexFix 8 m hm4).1]
    simp only
    rw [hrm] at hm
    rw [if_pos hm]
  · obtain ⟨e1, e2, e3⟩ := hB n h
    rw [← hC n h]
    apply ByteArray.ext
    apply Array.toList_inj.1
    rw [e1]
    unfold hx hexS
    rw [e3, Int.toNat_natCast]

/-! ### The whole text -/

theorem join_cutL : ∀ (l cur : List UInt8), Lib.join (cutL cur l) [44] = cur ++ l
  | [], cur => by
    show Lib.join [cur] [44] = _
    rw [Lib.join_cons]
    simp [Lib.joinTail]
  | c :: r, cur => by
    unfold cutL
    by_cases hc : c = 44
    · subst hc
      rw [if_pos rfl, Lib.join_cons]
      have ih := join_cutL r []
      obtain ⟨x, t, hx⟩ : ∃ x t, cutL [] r = x :: t := by
        cases r with
        | nil => exact ⟨_, _, rfl⟩
        | cons d q =>
          have hne : cutL [] (d :: q) ≠ [] := by
            unfold cutL
            split
            · simp
            · intro e
              have := join_cutL q ([] ++ [d])
              rw [e] at this
              simp [Lib.join_nil] at this
          cases hcut : cutL [] (d :: q) with
          | nil => exact absurd hcut hne
          | cons x t => exact ⟨x, t, rfl⟩
      rw [hx] at ih ⊢
      rw [Lib.join_cons] at ih
      rw [joinTail_cons]
      rw [List.nil_append] at ih
      rw [← ih]
      simp
    · rw [if_neg hc, join_cutL r (cur ++ [c])]
      simp

theorem join_cutS (s : ByteArray) : Lib.join ((cutS s).map (·.data.toList)) [44] = s.data.toList := by
  rw [cutS_lists, join_cutL]
  rfl

theorem joinTail_inj8 : ∀ (a b : List (List UInt8)), (∀ x ∈ a, x.length = 8) → (∀ x ∈ b, x.length = 8) → a.length = b.length → Lib.joinTail [44] a = Lib.joinTail [44] b → a = b
  | [], [], _, _, _, _ => rfl
  | x :: r, y :: t, ha, hb, hl, h => by
    rw [joinTail_cons, joinTail_cons] at h
    obtain ⟨h1, h2⟩ := List.append_inj h (by simp [ha x (by simp), hb y (by simp)])
    have h3 : x = y := by injection h1
    rw [h3, joinTail_inj8 r t (fun z hz => ha z (by simp [hz])) (fun z hz => hb z (by simp [hz])) (by simpa using hl) h2]
  | [], _ :: _, _, _, hl, _ => by cases hl
  | _ :: _, [], _, _, hl, _ => by cases hl

theorem join_inj8 (a b : List (List UInt8)) (ha : ∀ x ∈ a, x.length = 8) (hb : ∀ x ∈ b, x.length = 8) (hl : a.length = b.length) (h : Lib.join a [44] = Lib.join b [44]) : a = b := by
  cases a with
  | nil =>
    cases b with
    | nil => rfl
    | cons _ _ => cases hl
  | cons x r =>
    cases b with
    | nil => cases hl
    | cons y t =>
      rw [Lib.join_cons, Lib.join_cons] at h
      obtain ⟨h1, h2⟩ := List.append_inj h (by rw [ha x (by simp), hb y (by simp)])
      rw [h1, joinTail_inj8 r t (fun z hz => ha z (by simp [hz])) (fun z hz => hb z (by simp [hz])) (by simpa using hl) h2]

theorem lAll_some : ∀ (ps : List ByteArray), (∀ p ∈ ps, p.size = 8) → (∀ p ∈ ps, p = hx (rh p)) → lAll ps = some (ps.map rh)
  | [], _, _ => rfl
  | p :: r, h8, h => by
    obtain ⟨n, hn⟩ := (piece_law p (h8 p (by simp))).1.1 (h p (by simp))
    have e := (piece_law p (h8 p (by simp))).2 n hn
    unfold lAll
    rw [hn, lAll_some r (fun q hq => h8 q (by simp [hq])) (fun q hq => h q (by simp [hq])), List.map_cons, ← e]
    rfl

theorem lAll_size : ∀ (ps : List ByteArray) (l : List Nat), lAll ps = some l → ∀ p ∈ ps, p.size = 8 ∧ p = hx (rh p)
  | [], _, _, p, hp => by cases hp
  | q :: r, l, h, p, hp => by
    unfold lAll at h
    cases hq : lRead q with
    | none => rw [hq] at h; cases h
    | some n =>
      rw [hq] at h
      have h8 : q.size = 8 := by
        unfold lRead at hq
        split at hq
        · assumption
        · cases hq
      cases hr : lAll r with
      | none => rw [hr] at h; cases h
      | some l' =>
        rcases List.mem_cons.1 hp with rfl | hp
        · exact ⟨h8, (piece_law p h8).1.2 ⟨n, hq⟩⟩
        · exact lAll_size r l' hr p hp

/-- What the reference returns. -/
noncomputable def readF (s : ByteArray) : List Nat × Bool := if s = noneS then ([], true) else if 256 < (cutS s).length then ([], false) else match lAll (cutS s) with | none => ([], false) | some l => (l, true)

theorem textF_iff (s : ByteArray) (hn : s ≠ noneS) (h8 : ∀ p ∈ cutS s, p.size = 8) : textF ((cutS s).map rh) = s ↔ ∀ p ∈ cutS s, p = hx (rh p) := by
  have hpos : 0 < (cutS s).length := by rw [cutS_len]; omega
  have hne : ((cutS s).map rh).map hx ≠ [] := by intro e; have := congrArg List.length e; rw [List.length_map, List.length_map, List.length_nil] at this; omega
  have ht : (textF ((cutS s).map rh)).data.toList = Lib.join ((((cutS s).map rh).map hx).map (·.data.toList)) [44] := by
    unfold textF joinS
    rw [if_neg hne]
  constructor
  · intro h p hp
    rw [h, ← join_cutS s] at ht
    have e := join_inj8 _ _ (by
      intro x hx'
      obtain ⟨q, hq, rfl⟩ := List.mem_map.1 hx'
      rw [data_length]; exact h8 q hq) (by
      intro x hx'
      obtain ⟨q, hq, rfl⟩ := List.mem_map.1 hx'
      obtain ⟨z, hz, rfl⟩ := List.mem_map.1 hq
      exact hx_len z) (by simp) ht
    have e2 := list_texts e
    obtain ⟨i, hi, rfl⟩ := List.mem_iff_getElem.1 hp
    have e3 : (cutS s)[i]? = ((((cutS s).map rh).map hx))[i]? := by rw [← e2]
    rw [List.getElem?_map, List.getElem?_map, List.getElem?_eq_getElem hi] at e3
    exact Option.some.inj e3
  · intro h
    have e : ((cutS s).map rh).map hx = cutS s := by
      rw [List.map_map]
      conv => rhs; rw [← List.map_id (cutS s)]
      exact List.map_congr_left fun p hp => (h p hp).symm
    apply ByteArray.ext
    apply Array.toList_inj.1
    rw [ht, e, join_cutS]

/-- How the program's way ends where each piece has eight signs and they are few. -/
theorem readF_all (s : ByteArray) (hn : s ≠ noneS) (h8 : ∀ p ∈ cutS s, p.size = 8) (hl : (cutS s).length ≤ 256) : readF s = if textF ((cutS s).map rh) = s then ((cutS s).map rh, true) else ([], false) := by
  unfold readF
  rw [if_neg hn, if_neg (by omega)]
  by_cases h : textF ((cutS s).map rh) = s
  · rw [if_pos h, lAll_some _ h8 ((textF_iff s hn h8).1 h)]
  · rw [if_neg h]
    cases ha : lAll (cutS s) with
    | none => rfl
    | some l => exact absurd ((textF_iff s hn h8).2 fun p hp => (lAll_size _ l ha p hp).2) h

theorem readF_not (s : ByteArray) (hn : s ≠ noneS) (h : (∃ p ∈ cutS s, p.size ≠ 8) ∨ 256 < (cutS s).length) : readF s = ([], false) := by
  unfold readF
  rw [if_neg hn]
  split
  · rfl
  · rename_i hl
    rcases h with ⟨p, hp, hp8⟩ | h
    · cases ha : lAll (cutS s) with
      | none => rfl
      | some l => exact absurd (lAll_size _ l ha p hp).1 hp8
    · exact absurd h hl

theorem readF_none : readF noneS = ([], true) := if_pos rfl

theorem readF_small (s : ByteArray) : (readF s).1.length ≤ 256 ∧ ∀ x ∈ (readF s).1, x < 4294967296 := by
  by_cases hn : s = noneS
  · subst hn; rw [readF_none]; simp
  · by_cases h : (∃ p ∈ cutS s, p.size ≠ 8) ∨ 256 < (cutS s).length
    · rw [readF_not s hn h]; simp
    · have h8 : ∀ p ∈ cutS s, p.size = 8 := fun p hp => Classical.byContradiction fun e => h (.inl ⟨p, hp, e⟩)
      have hl : (cutS s).length ≤ 256 := by rcases Nat.lt_or_ge 256 (cutS s).length with h' | h'; exact absurd (.inr h') h; exact h'
      rw [readF_all s hn h8 hl]
      split
      · refine ⟨by simpa using hl, fun x hx' => ?_⟩
        obtain ⟨p, hp, rfl⟩ := List.mem_map.1 hx'
        exact rh_lt p (h8 p hp)
      · simp
end Go.Proofs.YtjfoimbeflobkabDoor
namespace Go.Proofs.YtjfoimbeflobkabDoor
open Fl Go.RowKit Go.Proofs.YtjfoimbeflobkabDoorW.PrintWords
set_option linter.unusedVariables false

theorem floats_of_own {w : World} {base e c n : Nat} {A : Option Addr} {xs : List Nat} (h : w.ownsRow base e 1 (.slice A n c) n (encs (Value.float .f32) xs)) (hx : ∀ x ∈ xs, x < 4294967296) : xs.length = n ∧ FloatsAt w w.heap.size A xs := by
  have hl : xs.length = n := by have := h.1; rw [encs_length] at this; omega
  refine ⟨hl, fun i hi => ?_⟩
  obtain ⟨g, cap, he, hgb, hgl⟩ := h.form (by omega)
  cases he
  have hc := (own_at_of (d := 0) h (i : Int) (by omega) (by omega)).1
  rw [Int.toNat_natCast] at hc
  refine ⟨g, 0, rfl, hgl, ?_, ?_⟩
  · rw [Nat.zero_add, hc]
    unfold rdOf
    rw [Int.toNat_natCast]
  · rw [List.getD_eq_getElem?_getD, List.getElem?_eq_getElem hi]
    exact hx _ (List.getElem_mem hi)

theorem pub16 (t : ByteArray) (h8 : t.size = 8) (w : World) (he : Errs w) :
    Calls Tryd.prog 50 #[.string t, .int .i64 16, .int .i64 32] w fun e w' => (∃ E : Value, e = .returned (.tuple #[.int .u64 (rh t : Int), E])) ∧ Below w.heap.size w w' := by
  have hb := Lib.bytesWorld_below w 5 t
  obtain ⟨tp, p, tq, q, hR, hS⟩ := he
  have hp := parse16 t h8 w
  obtain ⟨W1, hW1⟩ : ∃ W1, W1 = Lib.bytesWorld w 5 t := ⟨_, rfl⟩
  rw [← hW1] at hp hb
  have hcell : W1.cell? ⟨2, 0, none⟩ = some (.iface tq q) := by
    have h := World.var?_cell gErrS hS 0
    have h' : w.cell? ⟨2, 0, none⟩ = some (.iface tq q) := by simpa using h
    exact (hb.cell (World.block_lt_of_cell? _ _ h')).trans h'
  have HCELL := Lib.hid hcell
  have HB := Lib.hid hb
  clear hW1 hcell hb hR hS
  cases hv : pVal 0 t.data.toList with
  | some v =>
    have hr : rh t = v := by unfold rh; rw [hv]; rfl
    rw [hv] at hp
    have HP : Hid (Calls Tryd.prog 66 #[.string t, .int .i64 16, .int .i64 32] w fun e w' => e = .returned (.tuple #[.int .u64 (v : Int), .nilIface]) ∧ w' = W1) := hp
    rw [hr]
    clear hv hp hr
    go_enter Tryd.func50, Tryd.ntmps50
    go_wp2_with (first | (go_at_call 66; refine HP.out.mono ?_; rintro e w' ⟨rfl, hw⟩; obtain rfl := hw) | fail)
    go_ret2
    exact ⟨⟨_, rfl⟩, HB.out⟩
  | none =>
    have hr : rh t = 0 := by unfold rh; rw [hv]; rfl
    rw [hv] at hp
    have HP : Hid (Calls Tryd.prog 66 #[.string t, .int .i64 16, .int .i64 32] w fun e w' => e = .returned (.tuple #[.int .u64 0, .iface 105 (.int .i64 2)]) ∧ w' = W1) := hp
    rw [hr]
    clear hv hp hr
    go_enter Tryd.func50, Tryd.ntmps50
    go_wp2_with (first | (go_at_call 66; refine HP.out.mono ?_; rintro e w' ⟨rfl, hw⟩; obtain rfl := hw) | (go_at_call 67; refine (Tryd.strconv_toError_syntax _ t 16 32 (.iface tq q) _ (by omega) HCELL.out (.inr ⟨_, _, rfl⟩)).mono ?_; rintro e w2 ⟨N, rfl, hN, hc, hb2⟩) | fail)
    go_ret2
    exact ⟨⟨_, rfl⟩, hex_next HB.out hb2⟩

theorem impl_readHex (t : ByteArray) (h8 : t.size = 8) (w : World) (he : Errs w) :
    Calls Tryd.prog 37 #[.string t] w fun e w' => e = .returned (.float .f32 (rh t)) ∧ Below w.heap.size w w' := by
  have hp := pub16 t h8 w he
  have hr := rh_lt t h8
  obtain ⟨v, hv⟩ : ∃ v, v = rh t := ⟨_, rfl⟩
  rw [← hv] at hp hr ⊢
  have HP := Lib.hid hp
  have b1 : (v : Int) < 4294967296 := by omega
  have b2 : (0 : Int) ≤ (v : Int) := by omega
  clear hp hv he
  go_enter Tryd.func37, Tryd.ntmps37
  go_wp2_with (first | (go_at_call 50; refine HP.out.mono ?_; rintro e w1 ⟨⟨E, rfl⟩, hb1⟩) | go_in)
  go_ret
  exact ⟨by simp, hb1⟩

theorem spec_l01From (n : Nat) (h : n < 4294967296) (w : World) : Calls Tryd.prog 47 #[.int .i64 (n : Int)] w fun e w' => e = .returned (.float .f32 n) ∧ w = w' := by
  have b1 : (n : Int) < 4294967296 := by omega
  have b2 : (0 : Int) ≤ (n : Int) := by omega
  go_enter Tryd.func47, Tryd.ntmps47
  go_wp2_with go_in
  go_ret
  exact ⟨by simp, rfl⟩
end Go.Proofs.YtjfoimbeflobkabDoor
namespace Go.Proofs.YtjfoimbeflobkabDoor
open Fl Go.RowKit Go.Proofs.YtjfoimbeflobkabDoorW.PrintWords
set_option linter.unusedVariables false

/-- Rows of floats. -/
def KF : Kd Nat := Kd.scalar (Value.float .f32) (fun _ => rfl)

theorem readF_end (s : ByteArray) (h8 : ∀ p ∈ piecesV s, p.size = 8) (hl : (piecesV s).length ≤ 256) : readF s = if textF ((piecesV s).map rh) = s then ((piecesV s).map rh, true) else ([], false) := by
  by_cases hn : s = noneS
  · subst hn
    have e : piecesV noneS = [] := if_pos rfl
    rw [e, readF_none]
    exact (if_pos rfl).symm
  · have e : piecesV s = cutS s := if_neg hn
    rw [e] at h8 hl ⊢
    exact readF_all s hn h8 hl

theorem readF_bad (s : ByteArray) (h : (∃ p ∈ piecesV s, p.size ≠ 8) ∨ 256 < (piecesV s).length) : readF s = ([], false) := by
  by_cases hn : s = noneS
  · subst hn
    have e : piecesV noneS = [] := if_pos rfl
    rw [e] at h
    rcases h with ⟨p, hp, _⟩ | h
    · cases hp
    · cases h
  · have e : piecesV s = cutS s := if_neg hn
    rw [e] at h
    exact readF_not s hn h

theorem impl_ReadNumbers (s : ByteArray) (hs : s.size ≤ 1048576) (w : World) (hm : MaxSome w) (he : Errs w) (hz : TabZ w) :
    Calls Tryd.prog 21 #[.string s] w fun e w' => ∃ v : Value, e = .returned (.tuple #[v, .bool (readF s).2]) ∧ Kd.R KF 34 w' w.heap.size (fun _ => True) v (readF s).1 ∧ Below w.heap.size w w' := by
  have HM : Hid (MaxSome w) := hm
  have HE : Hid (Errs w) := he
  have HZ : Hid (TabZ w) := hz
  have hpl := piecesV_len s hs
  obtain ⟨ps, hp⟩ : ∃ ps, ps = piecesV s := ⟨_, rfl⟩
  obtain ⟨rl, rb, hr⟩ : ∃ rl rb, readF s = (rl, rb) := ⟨_, _, rfl⟩
  have hB : (∃ p ∈ ps, p.size ≠ 8) ∨ 256 < ps.length → rl = [] ∧ rb = false := by
    intro h
    rw [hp] at h
    have e := readF_bad s h
    rw [hr] at e
    exact Prod.mk.inj e
  have hG : (∀ p ∈ ps, p.size = 8) → ps.length ≤ 256 → (rl, rb) = if textF (ps.map rh) = s then (ps.map rh, true) else ([], false) := by
    intro h1 h2
    rw [hp] at h1 h2 ⊢
    rw [← hr]
    exact readF_end s h1 h2
  rw [← hp] at hpl
  rw [hr]
  have HP : Hid (ps = piecesV s) := hp
  have HB := Lib.hid hB
  have HG := Lib.hid hG
  have hb0 : ∀ o : Obj, Below w.heap.size w (w.alloc o) := fun o => Below.alloc (Below.refl _ _) (Nat.le_refl _) _
  have HB0 := Lib.hid hb0
  have hmade : Kd.R KF 34 (w.alloc (.cells #[] 34)) w.heap.size (fun _ => True) (.slice (some ⟨w.heap.size, 0, none⟩) 0 0) [] := Kd.R_of_own (own_lit_of (enc := Value.float .f32) w w.heap.size 34 [] (Nat.le_refl _) (by decide)) (fun _ _ => trivial)
  have HMADE := Lib.hid hmade
  clear hm he hz hp hr hB hG hb0 hmade
  go_enter Tryd.func21, Tryd.ntmps21
  go_wp2_with (first | (go_at_call 36; refine (impl_pieces s hs _ (HM.out.below (HB0.out _))).mono ?_; rintro e w1 ⟨v1, rfl, hR1, hb1⟩; have hb1' : Below w.heap.size w w1 := hex_next (HB0.out _) hb1; rw [← HP.out] at hR1; obtain ⟨A1, c1, rfl⟩ := Kd.R_slice hR1; have HR1 : Hid (Kd.R Kd.string 9 w1 w.heap.size (fun _ => True) (.slice A1 ps.length c1) ps) := Kd.R_lower hR1 (by simp); have HO1 := Lib.hid (Kd.R_below HMADE.out hb1); clear hR1) | fail)
  go_loopw [4, 13] (fun t i wr => ∃ (k : Nat) (l : List Nat), k ≤ ps.length ∧ k ≤ 256 ∧ i = .int .i64 (k : Int) ∧ Hid (l = (ps.take k).map rh) ∧ Hid (∀ p ∈ ps.take k, p.size = 8) ∧ Hid (Kd.R KF 34 wr w.heap.size (fun _ => True) t l) ∧ Hid (Kd.R Kd.string 9 wr w.heap.size (fun _ => True) (.slice A1 ps.length c1) ps) ∧ Below w.heap.size w wr) (fun _ i _ => ps.length - (intOf i).toNat)
  case atStart => exact ⟨0, [], Nat.zero_le _, Nat.zero_le _, rfl, by exact rfl, by show ∀ p ∈ ([] : List ByteArray), _; simp, by exact HO1.out, by exact HR1.out, hb1'⟩
  case round =>
    obtain ⟨k, l, hk, hk2, rfl, hl, h8, hO, hP, hb⟩ := hrel
    clear HR1 HO1 hb1 hb1' HMADE
    have hll : l.length = k := by rw [hl.out, List.length_map, List.length_take]; omega
    obtain ⟨A4, c4, hv4⟩ := Kd.R_slice hO.out
    rw [hll] at hv4
    subst hv4
    by_cases hlt : k < ps.length
    · have b1 : (k : Int) < (ps.length : Int) := by omega
      have b2 : (0 : Int) ≤ (k : Int) := by omega
      have b3 : (k : Int) ≤ 1048577 := by omega
      obtain ⟨ad, rfl, hc⟩ := Kd.at_string (Kd.R_reads' hP.out).2.2 (k : Int) b2 b1
      rw [rdOf_get ps k hlt, Int.toNat_natCast] at hc
      have hmem : ps[k] ∈ ps := List.getElem_mem hlt
      by_cases hp8 : ps[k].size = 8
      · by_cases h256 : k = 256
        · obtain ⟨rfl, rfl⟩ := HB.out (.inr (by omega))
          have c256 : ((k : Int) == 256) = true := by simp; omega
          clear hmem HG HB h256
          generalize ps[k] = p at *
          go_wp2_with fail
          go_ret2
          exact ⟨_, rfl, Kd.R_nil _ _ _ _ _, hb⟩
        · have c256 : ((k : Int) == 256) = false := by simp; omega
          have hrc := impl_readHex ps[k] hp8
          have HRC := Lib.hid hrc
          have e1 : (ps.take (k + 1)).map rh = l ++ [rh ps[k]] := by rw [List.take_succ_eq_append_getElem hlt, List.map_append, hl.out]; rfl
          have e2 : ∀ p ∈ ps.take (k + 1), p.size = 8 := by
            intro p hp
            rw [List.take_succ_eq_append_getElem hlt] at hp
            rcases List.mem_append.1 hp with hp | hp
            · exact h8.out p hp
            · rw [List.mem_singleton.1 hp]; exact hp8
          have E1 := Lib.hid e1
          have E2 := Lib.hid e2
          clear hrc hmem e1 e2 HG HB
          generalize ps[k] = p at *
          obtain ⟨q, hq⟩ : ∃ q, q = rh p := ⟨_, rfl⟩
          rw [← hq] at HRC E1
          clear hq
          go_wp2_with (first | (go_at_call 37; refine (HRC.out _ (HE.out.below hb)).mono ?_; rintro e w2 ⟨rfl, hb2⟩; have K2 : Below w.heap.size w w2 := hex_next hb hb2; have O2 := Lib.hid (Kd.R_below hO.out hb2); have P2 := Lib.hid (Kd.R_below hP.out hb2)) | (at_builtin; refine Kd.R_append KF (w0 := w) w.heap.size rfl (.tmp 25) (.tmp 28) 28 34 (.float .f32 0) 4 rfl Tryd.underlying28 (by kernel_rfl) rfl (by decide) (by omega) (.slice A4 k c4) l q [.float .f32 q] (fun _ => True) (fun _ => False) rfl rfl rfl (fun _ hk => hk.elim) (fun _ _ => trivial) O2.out K2 K2.size (by omega) ?_; intro v3 w3 hO3 K3 hg3 hat3; have O3 := Lib.hid hO3; have P3 := Lib.hid (Kd.R_over' P2.out (Kd.R_typed O2.out) (by decide) hg3); clear hat3 hg3 hO3) | fail)
          go_roundw
          case rel => exact ⟨k + 1, l ++ [q], hlt, by omega, by simp, by exact E1.out.symm, by exact E2.out, by exact O3.out, by exact P3.out, K3⟩
          case measure => simp [intOf]; omega
      · obtain ⟨rfl, rfl⟩ := HB.out (.inl ⟨ps[k], hmem, hp8⟩)
        have c8 : ((ps[k].size : Int) == 8) = false := by simp; omega
        clear hmem HG HB
        generalize ps[k] = p at *
        go_wp2_with fail
        go_ret2
        exact ⟨_, rfl, Kd.R_nil _ _ _ _ _, hb⟩
    · obtain rfl : k = ps.length := by omega
      have hfin : l = ps.map rh := by have := hl.out; rw [List.take_length] at this; exact this
      have h8' : ∀ p ∈ ps, p.size = 8 := by have := h8.out; rw [List.take_length] at this; exact this
      have hres := HG.out h8' hk2
      have hx : ∀ x ∈ l, x < 4294967296 := by
        intro x hx
        rw [hfin] at hx
        obtain ⟨p, hp, rfl⟩ := List.mem_map.1 hx
        exact rh_lt p (h8' p hp)
      have hown := Kd.own_of_R hO.out
      rw [hll] at hown
      obtain ⟨_, hFA⟩ := floats_of_own hown hx
      have hnum : numF l = (textF l, true) := if_pos (by omega)
      have hcall := impl_NumbersText A4 c4 l ps.length hll wr hFA (HZ.out.below hb)
      rw [hnum] at hcall
      have HC := Lib.hid hcall
      rw [← hfin] at hres
      obtain ⟨tx, htx⟩ : ∃ tx, tx = textF l := ⟨_, rfl⟩
      rw [← htx] at HC hres
      clear hfin h8' hx hown hFA hnum hcall htx HG HB h8 hl
      by_cases heq : tx = s
      · rw [if_pos heq] at hres
        obtain ⟨rfl, rfl⟩ := Prod.mk.inj hres
        subst heq
        clear hres
        go_wp2_with (first | (go_at_call 15; refine HC.out.mono ?_; rintro e w2 ⟨rfl, hb2⟩) | fail)
        go_ret2
        exact ⟨_, rfl, Kd.R_below hO.out hb2, hex_next hb hb2⟩
      · rw [if_neg heq] at hres
        obtain ⟨rfl, rfl⟩ := Prod.mk.inj hres
        have hne : (tx.toList == s.toList) = false := by
          rw [beq_eq_false_iff_ne]
          intro e
          rw [ByteArray.toList_eq, ByteArray.toList_eq] at e
          exact heq (ByteArray.ext (Array.toList_inj.1 e))
        clear hres
        go_wp2_with (first | (go_at_call 15; refine HC.out.mono ?_; rintro e w2 ⟨rfl, hb2⟩) | fail)
        go_ret2
        exact ⟨_, rfl, Kd.R_nil _ _ _ _ _, hex_next hb hb2⟩
end Go.Proofs.YtjfoimbeflobkabDoor
namespace Go.Proofs.YtjfoimbeflobkabDoor
open Fl Go.RowKit Go.Proofs.YtjfoimbeflobkabDoorW.PrintWords
set_option linter.unusedVariables false

theorem lAll_snoc : ∀ (ps : List ByteArray) (p : ByteArray) (l : List Nat) (n : Nat), lAll ps = some l → lRead p = some n → lAll (ps ++ [p]) = some (l ++ [n])
  | [], p, l, n, h, hn => by cases h; simp [lAll, hn]
  | q :: r, p, l, n, h, hn => by
    unfold lAll at h
    cases hq : lRead q with
    | none => rw [hq] at h; cases h
    | some a =>
      rw [hq] at h
      cases hr : lAll r with
      | none => rw [hr] at h; cases h
      | some l' =>
        rw [hr] at h
        cases h
        rw [List.cons_append]
        unfold lAll
        rw [hq, lAll_snoc r p l' n hr hn]
        rfl

theorem lAll_stop : ∀ (ps : List ByteArray) (p : ByteArray) (r : List ByteArray), lRead p = none → lAll (ps ++ p :: r) = none
  | [], p, r, h => by simp [lAll, h]
  | q :: t, p, r, h => by
    rw [List.cons_append]
    unfold lAll
    cases lRead q with
    | none => rfl
    | some a => rw [lAll_stop t p r h]; rfl

theorem lAll_len : ∀ (ps : List ByteArray) (l : List Nat), lAll ps = some l → l.length = ps.length
  | [], l, h => by cases h; rfl
  | p :: r, l, h => by
    unfold lAll at h
    cases hp : lRead p with
    | none => rw [hp] at h; cases h
    | some n =>
      rw [hp] at h
      cases hr : lAll r with
      | none => rw [hr] at h; cases h
      | some l' =>
        rw [hr] at h
        cases h
        simp [lAll_len r l' hr]

set_option maxHeartbeats 4000000 in
theorem spec_l01NRead (s : ByteArray) (hs : s.size ≤ 1048576) (w : World) :
    Calls Tryd.prog 35 #[.string s] w fun e w' => ∃ v : Value, e = .returned (.tuple #[v, .bool (readF s).2]) ∧ Kd.R KF 34 w' w.heap.size (fun _ => True) v (readF s).1 ∧ Below w.heap.size w w' := by
  have hb0 : ∀ o : Obj, Below w.heap.size w (w.alloc o) := fun o => Below.alloc (Below.refl _ _) (Nat.le_refl _) _
  have HB0 := Lib.hid hb0
  have hmade : Kd.R KF 34 (w.alloc (.cells #[] 34)) w.heap.size (fun _ => True) (.slice (some ⟨w.heap.size, 0, none⟩) 0 0) [] := Kd.R_of_own (own_lit_of (enc := Value.float .f32) w w.heap.size 34 [] (Nat.le_refl _) (by decide)) (fun _ _ => trivial)
  have HMADE := Lib.hid hmade
  clear hb0 hmade
  by_cases hn : s = noneS
  · rw [hn, readF_none]
    have b0 : (noneS.toList == ([110, 111, 110, 101] : List UInt8)) = true := by rw [ByteArray.toList_eq]; decide
    clear hn hs
    go_enter Tryd.func35, Tryd.ntmps35
    go_wp2_with fail
    go_ret2
    exact ⟨_, rfl, HMADE.out, HB0.out _⟩
  · have b0 := ne_noneS hn
    have hcut : ∀ w : World, Calls Tryd.prog 39 #[.string s, .int .u8 44] w fun e w' => ∃ v : Value, e = .returned v ∧ Kd.R Kd.string 9 w' w.heap.size (fun _ => True) v (cutS s) ∧ Below w.heap.size w w' := fun w => PReadList.spec_l01Cut.calls (s.size + 2) s 44 (cutS s) w (cut_f s hs _ (Nat.le_refl _))
    obtain ⟨rl, rb, hr⟩ : ∃ rl rb, readF s = (rl, rb) := ⟨_, _, rfl⟩
    obtain ⟨ps, hps⟩ : ∃ ps, ps = cutS s := ⟨_, rfl⟩
    have hL : 256 < ps.length → rl = [] ∧ rb = false := by
      intro h
      have e := readF_not s hn (.inr (by rw [← hps]; exact h))
      rw [hr] at e
      exact Prod.mk.inj e
    have hG : ps.length ≤ 256 → (rl, rb) = match lAll ps with | none => ([], false) | some l => (l, true) := by
      intro h
      rw [← hr]
      unfold readF
      rw [if_neg hn, ← hps, if_neg (by omega)]
      try rfl
    rw [← hps] at hcut
    rw [hr]
    have HC := Lib.hid hcut
    clear hcut hr hps hn
    by_cases h256 : 256 < ps.length
    · obtain ⟨rfl, rfl⟩ := hL h256
      have c1 : (256 : Int) < (ps.length : Int) := by omega
      clear hL hG
      go_enter Tryd.func35, Tryd.ntmps35
      go_wp2_with (first | (go_at_call 39; refine (HC.out _).mono ?_; rintro e w1 ⟨v, rfl, hR, hb1⟩; obtain ⟨A1, d1, rfl⟩ := Kd.R_slice hR; clear hR) | fail)
      go_ret2
      exact ⟨_, rfl, Kd.R_nil _ _ _ _ _, hex_next (HB0.out _) hb1⟩
    · have hG' := hG (by omega)
      have c1 : ¬ (256 : Int) < (ps.length : Int) := by omega
      have hBad : lAll ps = none → rl = [] ∧ rb = false := by intro h; rw [h] at hG'; exact Prod.mk.inj hG'
      have hGood : ∀ l, lAll ps = some l → rl = l ∧ rb = true := by intro l h; rw [h] at hG'; exact Prod.mk.inj hG'
      have HBAD := Lib.hid hBad
      have HGOOD := Lib.hid hGood
      clear hL hG hG' hBad hGood
      go_enter Tryd.func35, Tryd.ntmps35
      go_wp2_with (first | (go_at_call 39; refine (HC.out _).mono ?_; rintro e w1 ⟨v, rfl, hR, hb1⟩; obtain ⟨A1, d1, rfl⟩ := Kd.R_slice hR; have hb1' : Below w.heap.size w w1 := hex_next (HB0.out _) hb1; have HR1 : Hid (Kd.R Kd.string 9 w1 w.heap.size (fun _ => True) (.slice A1 ps.length d1) ps) := Kd.R_lower hR (by simp); have HO1 := Lib.hid (Kd.R_below HMADE.out hb1); clear hR) | fail)
      go_loopw [4, 6] (fun t i wr => ∃ (k : Nat) (l : List Nat), k ≤ ps.length ∧ i = .int .i64 (k : Int) ∧ Hid (lAll (ps.take k) = some l) ∧ Hid (Kd.R KF 34 wr w.heap.size (fun _ => True) t l) ∧ Hid (Kd.R Kd.string 9 wr w.heap.size (fun _ => True) (.slice A1 ps.length d1) ps) ∧ Below w.heap.size w wr) (fun _ i _ => ps.length - (intOf i).toNat)
      case atStart => exact ⟨0, [], Nat.zero_le _, rfl, by exact rfl, by exact HO1.out, by exact HR1.out, hb1'⟩
      case round =>
        obtain ⟨k, l, hk, rfl, hl, hO, hP, hb⟩ := hrel
        clear HR1 HO1 hb1 hb1' HMADE
        have hll : l.length = k := by rw [lAll_len _ _ hl.out, List.length_take]; omega
        by_cases hlt : k < ps.length
        · have b1 : (k : Int) < (ps.length : Int) := by omega
          have b2 : (0 : Int) ≤ (k : Int) := by omega
          have b3 : (k : Int) ≤ 256 := by omega
          obtain ⟨ad, rfl, hc⟩ := Kd.at_string (Kd.R_reads' hP.out).2.2 (k : Int) b2 b1
          rw [rdOf_get ps k hlt, Int.toNat_natCast] at hc
          have hstop : lRead ps[k] = none → rl = [] ∧ rb = false := by
            intro h
            apply HBAD.out
            have h' := lAll_stop (ps.take k) ps[k] (ps.drop (k + 1)) h
            rw [← drop_cons ps k hlt, List.take_append_drop] at h'
            exact h'
          have hgo : ∀ n, lRead ps[k] = some n → lAll (ps.take (k + 1)) = some (l ++ [n]) := by
            intro n h
            rw [List.take_succ_eq_append_getElem hlt]
            exact lAll_snoc _ _ _ _ hl.out h
          have HSTOP := Lib.hid hstop
          have HGO := Lib.hid hgo
          clear hstop hgo
          generalize ps[k] = p at *
          by_cases hp8 : p.size = 8
          · go_wp2_with fail
            go_loopw [7, 8] (fun n j wi => ∃ (m q : Nat) (a : Int), m ≤ 8 ∧ j = .int .i64 (m : Int) ∧ n = .int .i64 a ∧ Hid (a = (q : Int) ∧ q < 16 ^ m ∧ lVal 0 p.data.toList = lVal q (p.data.toList.drop m)) ∧ wi = wr) (fun _ j _ => 8 - (intOf j).toNat)
            case atStart => exact ⟨0, 0, 0, by omega, rfl, rfl, ⟨rfl, by decide, rfl⟩, rfl⟩
            case round =>
              obtain ⟨m, q, a, hm8, rfl, rfl, hq, hwi⟩ := hrel
              obtain rfl := hwi
              have hdl : p.data.toList.length = 8 := by rw [data_length]; exact hp8
              by_cases hmlt : m < 8
              · have d1 : (m : Int) < 8 := by omega
                have d2 : (0 : Int) ≤ (m : Int) := by omega
                obtain ⟨ha, hq16, hval⟩ := hq.out
                have h7 : 16 ^ m ≤ 16 ^ 7 := Nat.pow_le_pow_right (by decide) (by omega)
                have h7' : (16 : Nat) ^ 7 = 268435456 := by decide
                have a0 : 0 ≤ a := by omega
                have a1 : a < 268435456 := by omega
                have hdr : p.data.toList.drop m = p.data.toList[m]'(by omega) :: p.data.toList.drop (m + 1) := List.drop_eq_getElem_cons (by omega)
                have hcm : p[m]'(by omega) = p.data.toList[m]'(by omega) := rfl
                rw [hdr, ← hcm] at hval
                clear h7 h7' hdr hcm hq
                go_upto_region 17 with (fail)
                generalize p[m] = c at *
                have hc256 : c.toNat < 256 := c.toNat_lt
                by_cases hA : 48 ≤ c.toNat ∧ c.toNat ≤ 57
                · obtain ⟨hd0, hd1⟩ := hA
                  have hF : lVal q (c :: p.data.toList.drop (m + 1)) = lVal (q * 16 + (c.toNat - 48)) (p.data.toList.drop (m + 1)) := by simp [lVal, lHex, hd0, hd1]
                  have HN : Hid (16 * a + ((c.toNat : Int) - 48) = ((q * 16 + (c.toNat - 48) : Nat) : Int) ∧ q * 16 + (c.toNat - 48) < 16 ^ (m + 1) ∧ lVal 0 p.data.toList = lVal (q * 16 + (c.toNat - 48)) (p.data.toList.drop (m + 1))) := Lib.hid ⟨by omega, by rw [Nat.pow_succ]; omega, hval.trans hF⟩
                  have hx97 : c.toNat < 97 := by omega
                  have hpos : (48 : Int) ≤ (c.toNat : Int) := by omega
                  clear hF hval ha hq16
                  go_wp2_with fail
                  go_roundw
                  case rel => exact ⟨m + 1, q * 16 + (c.toNat - 48), 16 * a + ((c.toNat : Int) - 48), hmlt, by simp, rfl, by exact HN.out, by first | trivial | rfl⟩
                  case measure => simp [intOf]; omega
                · by_cases hB : 97 ≤ c.toNat ∧ c.toNat ≤ 102
                  · obtain ⟨hd0, hd1⟩ := hB
                    have hF : lVal q (c :: p.data.toList.drop (m + 1)) = lVal (q * 16 + (c.toNat - 87)) (p.data.toList.drop (m + 1)) := by simp [lVal, lHex, hd0, hd1, hA]
                    have HN : Hid (16 * a + ((c.toNat : Int) - 97 + 10) = ((q * 16 + (c.toNat - 87) : Nat) : Int) ∧ q * 16 + (c.toNat - 87) < 16 ^ (m + 1) ∧ lVal 0 p.data.toList = lVal (q * 16 + (c.toNat - 87)) (p.data.toList.drop (m + 1))) := Lib.hid ⟨by omega, by rw [Nat.pow_succ]; omega, hval.trans hF⟩
                    have hx57 : 57 < c.toNat := by omega
                    have hx48 : 48 ≤ c.toNat := by omega
                    clear hF hval ha hq16 hA
                    go_wp2_with fail
                    go_roundw
                    case rel => exact ⟨m + 1, q * 16 + (c.toNat - 87), 16 * a + ((c.toNat : Int) - 97 + 10), hmlt, by simp, rfl, by exact HN.out, by first | trivial | rfl⟩
                    case measure => simp [intOf]; omega
                  · have hno : lRead p = none := by
                      unfold lRead
                      rw [if_pos hp8, hval]
                      have : lHex c = none := by unfold lHex; rw [if_neg hA, if_neg hB]
                      simp [lVal, this]
                    obtain ⟨rfl, rfl⟩ := HSTOP.out hno
                    have hcase : c.toNat < 48 ∨ (57 < c.toNat ∧ c.toNat < 97) ∨ 102 < c.toNat := by omega
                    clear hno hval ha hq16 hA hB
                    rcases hcase with h1 | ⟨h1, h2⟩ | h1
                    · have h2 : c.toNat < 97 := by omega
                      go_wp2_with fail
                      go_ret2
                      exact ⟨_, rfl, Kd.R_nil _ _ _ _ _, hb⟩
                    · have h3 : 48 ≤ c.toNat := by omega
                      go_wp2_with fail
                      go_ret2
                      exact ⟨_, rfl, Kd.R_nil _ _ _ _ _, hb⟩
                    · have h3 : 48 ≤ c.toNat := by omega
                      have h4 : 57 < c.toNat := by omega
                      have h5 : 97 ≤ c.toNat := by omega
                      go_wp2_with fail
                      go_ret2
                      exact ⟨_, rfl, Kd.R_nil _ _ _ _ _, hb⟩
              · obtain rfl : m = 8 := by omega
                obtain ⟨ha, hq16, hval⟩ := hq.out
                have hq32 : q < 4294967296 := Nat.lt_of_lt_of_le hq16 (by decide)
                have hv : lVal 0 p.data.toList = some q := by
                  rw [hval, List.drop_of_length_le (by omega)]
                  rfl
                have hread : lRead p = if bitsV (val .f32 q) = (q : Int) then some q else none := by
                  unfold lRead
                  rw [if_pos hp8, hv]
                have hfrom := spec_l01From q hq32
                have hbits := spec_l01Bits q hq32
                obtain ⟨b, hbb⟩ : ∃ b, b = bitsV (val .f32 q) := ⟨_, rfl⟩
                rw [← hbb] at hbits hread
                have HF := Lib.hid hfrom
                have HBT := Lib.hid hbits
                subst ha
                clear hfrom hbits hq16 hval hv hbb hq hmlt
                by_cases hbq : b = (q : Int)
                · rw [if_pos hbq] at hread
                  subst hbq
                  have hgo := HGO.out q hread
                  have HG2 := Lib.hid hgo
                  obtain ⟨A4, c4, hv4⟩ := Kd.R_slice hO.out
                  rw [hll] at hv4
                  subst hv4
                  clear hgo hread
                  go_wp2_with (first | (go_at_call 47; refine (HF.out _).mono ?_; rintro e w' ⟨rfl, rfl⟩) | (go_at_call 48; refine (HBT.out _).mono ?_; rintro e w' ⟨rfl, hw⟩; obtain rfl := hw.symm) | (at_builtin; refine Kd.R_append KF (w0 := w) w.heap.size rfl (.tmp 74) (.tmp 76) 28 34 (.float .f32 0) 4 rfl Tryd.underlying28 (by kernel_rfl) rfl (by decide) (by omega) (.slice A4 k c4) l q [.float .f32 q] (fun _ => True) (fun _ => False) rfl rfl rfl (fun _ hk => hk.elim) (fun _ _ => trivial) hO.out hb hb.size (by omega) ?_; intro v3 w3 hO3 K3 hg3 hat3; have O3 := Lib.hid hO3; have P3 := Lib.hid (Kd.R_over' hP.out (Kd.R_typed hO.out) (by decide) hg3); clear hat3 hg3 hO3) | fail)
                  go_roundw
                  case rel => exact ⟨k + 1, l ++ [q], hlt, by simp, by exact HG2.out, by exact O3.out, by exact P3.out, K3⟩
                  case measure => simp [intOf]; omega
                · rw [if_neg hbq] at hread
                  obtain ⟨rfl, rfl⟩ := HSTOP.out hread
                  clear hread
                  go_wp2_with (first | (go_at_call 47; refine (HF.out _).mono ?_; rintro e w' ⟨rfl, rfl⟩) | (go_at_call 48; refine (HBT.out _).mono ?_; rintro e w' ⟨rfl, hw⟩; obtain rfl := hw.symm) | fail)
                  go_ret2
                  exact ⟨_, rfl, Kd.R_nil _ _ _ _ _, hb⟩
          · have hno : lRead p = none := by unfold lRead; rw [if_neg hp8]
            obtain ⟨rfl, rfl⟩ := HSTOP.out hno
            have c8 : ((p.size : Int) == 8) = false := by simp; omega
            clear hno
            go_wp2_with fail
            go_ret2
            exact ⟨_, rfl, Kd.R_nil _ _ _ _ _, hb⟩
        · obtain rfl : k = ps.length := by omega
          have hfin : lAll ps = some l := by have := hl.out; rw [List.take_length] at this; exact this
          obtain ⟨rfl, rfl⟩ := HGOOD.out _ hfin
          clear hfin
          go_wp2_with fail
          go_ret2
          exact ⟨_, rfl, hO.out, hb⟩
end Go.Proofs.YtjfoimbeflobkabDoor
namespace Go.Proofs.YtjfoimbeflobkabDoor
open Fl Go.RowKit Go.Proofs.YtjfoimbeflobkabDoorW.PrintWords
set_option linter.unusedVariables false

/-- The mark t + 1. -/
def mkF (t : Nat) : Nat := floatOfInt .f32 ((t : Int) + 1)
theorem mkF_all : ((List.range 300).all fun t => decide (mkF t % 2147483648 ≤ 2139095040)) = true := by decide +kernel
theorem mkF_le (t : Nat) (h : t < 300) : mkF t % 2147483648 ≤ 2139095040 := by
  have h1 := List.all_eq_true.1 mkF_all t (List.mem_range.2 h)
  exact of_decide_eq_true h1
theorem mkF_self (t : Nat) (h : t < 300) : FloatKind.f32.format.order (mkF t) (mkF t) = some .eq := by
  have h1 := mkF_le t h
  generalize mkF t = x at h1 ⊢
  apply order_self
  rw [val32, if_pos h1]
theorem mkF_lt (t : Nat) (h : t < 300) : mkF t < 4294967296 := by
  have h1 : ((List.range 300).all fun t => decide (mkF t < 4294967296)) = true := by decide +kernel
  exact of_decide_eq_true (List.all_eq_true.1 h1 t (List.mem_range.2 h))

def marksF (n : Nat) : List Nat := (List.range n).map mkF
theorem marksF_len (n : Nat) : (marksF n).length = n := by simp [marksF]
theorem map_range_getD (f : Nat → Nat) (n i : Nat) (h : i < n) : ((List.range n).map f).getD i 0 = f i := by
  rw [List.getD_eq_getElem?_getD, List.getElem?_map, List.getElem?_range h]
  rfl
theorem marksF_get (n i : Nat) (h : i < n) : (marksF n).getD i 0 = mkF i := by
  exact map_range_getD mkF n i h

def partF (l : List Nat) (i : Nat) : List Nat := marksF i ++ l.drop i
theorem partF_zero (l : List Nat) : partF l 0 = l := rfl
theorem partF_all (l : List Nat) : partF l l.length = marksF l.length := by simp [partF]
theorem partF_set (l : List Nat) (i : Nat) (h : i < l.length) : (partF l i).set i (mkF i) = partF l (i + 1) := by
  have e1 : marksF (i + 1) = marksF i ++ [mkF i] := by simp [marksF, List.range_succ]
  have e2 : l.drop i = l[i] :: l.drop (i + 1) := List.drop_eq_getElem_cons h
  have hm : (marksF i).length = i := marksF_len i
  unfold partF
  rw [e1, e2, List.set_append, if_neg (by omega), hm, Nat.sub_self, List.set_cons_zero, List.append_assoc]
  rfl

theorem laws_markFloat32S (v : Value) (l : List Nat) (hl : l.length ≤ 256) (w : World) (base : Nat) (h : w.ownsRow base 34 1 v l.length (encs (Value.float .f32) l)) :
    Calls Tryd.prog 22 #[v, .int .i64 1] w fun e w' => e = .returned (.int .i64 (1 + (l.length : Int))) ∧ w'.ownsRow base 34 1 v l.length (encs (Value.float .f32) (marksF l.length)) ∧ w.grownBy w' v.ownBlock := by
  by_cases h0 : l.length = 0
  · obtain rfl : l = [] := List.length_eq_zero_iff.1 h0
    obtain ⟨A, c, rfl⟩ := own_slice h
    have HO := Lib.hid h
    clear h h0 hl
    show Calls Tryd.prog 22 #[.slice A 0 c, .int .i64 1] w _
    go_enter Tryd.func22, Tryd.ntmps22
    go_wp2_with fail
    go_loopw [1, 5] (fun k i wr => wr = w ∧ k = .int .i64 1 ∧ i = .int .i64 0) (fun _ _ _ => 0)
    case atStart => exact ⟨rfl, rfl, rfl⟩
    case round =>
      obtain ⟨rfl, rfl, rfl⟩ := hrel
      go_wp2_with fail
      go_ret
      exact ⟨rfl, HO.out, World.grownBy.refl _ _⟩
  · obtain ⟨g, c, rfl, hgb, hgl⟩ := h.form (by omega)
    have HO := Lib.hid h
    clear h
    go_enter Tryd.func22, Tryd.ntmps22
    go_wp2_with fail
    go_loopw [1, 5] (fun k i wr => ∃ j : Nat, j ≤ l.length ∧ k = .int .i64 ((j : Int) + 1) ∧ i = .int .i64 (j : Int) ∧ Hid (wr.ownsRow base 34 1 (.slice (some ⟨g, 0, none⟩) l.length c) l.length (encs (Value.float .f32) (partF l j))) ∧ w.grownBy wr (some g)) (fun _ i _ => l.length - (intOf i).toNat)
    case atStart => exact ⟨0, Nat.zero_le _, rfl, rfl, by exact HO.out, World.grownBy.refl _ _⟩
    case round =>
      obtain ⟨j, hj, rfl, rfl, hO, hg⟩ := hrel
      by_cases hlt : j < l.length
      · have b1 : (j : Int) < (l.length : Int) := by omega
        have b2 : (0 : Int) ≤ (j : Int) := by omega
        have b3 : (j : Int) < 256 := by omega
        obtain ⟨hcell, hfr⟩ := own_at_of (d := (0 : Nat)) hO.out (j : Int) b2 b1
        obtain ⟨hst, hgs⟩ := own_store_of (enc := Value.float .f32) hO.out (j : Int) (mkF j)
        rw [Int.toNat_natCast] at hcell hfr hst hgs
        rw [partF_set l j hlt] at hst
        have hmk : floatOfInt .f32 ((j : Int) + 1) = mkF j := rfl
        have HST := Lib.hid hst
        have HGS := Lib.hid hgs
        clear hst hgs
        go_wp2_with fail
        go_roundw
        case rel => exact ⟨j + 1, hlt, by simp, by simp, by exact HST.out, World.grownBy.trans hg HGS.out⟩
        case measure => simp [intOf]; omega
      · obtain rfl : j = l.length := by omega
        go_wp2_with fail
        go_ret
        refine ⟨by rw [Int.add_comm]; rfl, ?_, hg⟩
        have := hO.out
        rw [partF_all] at this
        exact this

theorem laws_heldFloat32S (A : Option Addr) (c n : Nat) (hl : n ≤ 256) (w : World) (hA : FloatsAt w w.heap.size A (marksF n)) :
    Calls Tryd.prog 23 #[.slice A n c, .int .i64 1] w fun e w' => e = .returned (.int .i64 (1 + (n : Int))) ∧ ∃ m, w' = w.drewN m := by
  have HA := Lib.hid hA
  clear hA
  go_enter Tryd.func23, Tryd.ntmps23
  go_wp2_with fail
  go_loopw [1, 5] (fun k i wr => ∃ j : Nat, j ≤ n ∧ k = .int .i64 ((j : Int) + 1) ∧ i = .int .i64 (j : Int) ∧ ∃ m, wr = w.drewN m) (fun _ i _ => n - (intOf i).toNat)
  case atStart => exact ⟨0, Nat.zero_le _, rfl, rfl, 0, rfl⟩
  case round =>
    obtain ⟨j, hj, rfl, rfl, m, rfl⟩ := hrel
    by_cases hlt : j < n
    · have b1 : (j : Int) < (n : Int) := by omega
      have b2 : (0 : Int) ≤ (j : Int) := by omega
      have b3 : (j : Int) < 256 := by omega
      obtain ⟨b, off, rfl, hbl, hcell, _⟩ := HA.out j (by rw [marksF_len]; exact hlt)
      rw [marksF_get n j hlt] at hcell
      have hself := mkF_self j (by omega)
      have hmk : floatOfInt .f32 ((j : Int) + 1) = mkF j := rfl
      go_wp2_with fail
      go_roundw
      case rel => exact ⟨j + 1, hlt, by simp, by simp, by first | exact ⟨m, rfl⟩ | exact ⟨_, rfl⟩⟩
      case measure => simp [intOf]; omega
    · obtain rfl : j = n := by omega
      go_wp2_with fail
      go_ret
      exact ⟨by rw [Int.add_comm]; rfl, m, rfl⟩
end Go.Proofs.YtjfoimbeflobkabDoor
namespace Go.Proofs.YtjfoimbeflobkabDoor
open Go.RowKit Fl
set_option linter.unusedVariables false

theorem widen_ex (b : Nat) (w : World) : ∃ rn : Nat × Nat, (convert 34 52 (.float .f32 b)).run Tryd.prog w = .ok (.float .f64 rn.1) (w.drewN rn.2) ∧ FR .f64 rn.1 (wid (val .f32 b)) := by
  obtain ⟨r, n, h1, h2⟩ := run_widen (P := Tryd.prog) 34 52 b (by kernel_rfl) (by kernel_rfl) w
  exact ⟨(r, n), h1, h2⟩

noncomputable def widBits (b : Nat) (w : World) : Nat := (widen_ex b w).choose.1
noncomputable def widDraws (b : Nat) (w : World) : Nat := (widen_ex b w).choose.2
theorem widBits_fr (b : Nat) (w : World) : FR .f64 (widBits b w) (wid (val .f32 b)) := (widen_ex b w).choose_spec.2
theorem run_widen_eq (b : Nat) (w : World) : (convert 34 52 (.float .f32 b)).run Tryd.prog w = .ok (.float .f64 (widBits b w)) (w.drewN (widDraws b w)) := (widen_ex b w).choose_spec.1

attribute [local go_sem] run_widen_eq

theorem laws_eqFloat32S (A B : Option Addr) (cap cap' : Nat) (xs : List Nat) (n : Nat) (hn : xs.length = n) (hle : n ≤ 1048576) (w : World) (hA : FloatsAt w w.heap.size A xs) (hB : FloatsAt w w.heap.size B xs) :
    Calls Tryd.prog 16 #[.slice A n cap, .slice B n cap'] w fun e w' => e = .returned (.bool true) ∧ ∃ m, w' = w.drewN m := by
  have HA : Hid (FloatsAt w w.heap.size A xs) := hA
  have HB : Hid (FloatsAt w w.heap.size B xs) := hB
  have HN : Hid (xs.length = n) := hn
  clear hA hB hn
  go_enter Tryd.func16, Tryd.ntmps16
  go_wp2_with fail
  go_loopw [5] (fun k wr => ∃ (i : Nat), i ≤ n ∧ k = .int .i64 (i : Int) ∧ ∃ m, wr = w.drewN m) (fun k _ => n - (intOf k).toNat)
  case atStart => exact ⟨0, Nat.zero_le _, rfl, 0, rfl⟩
  case round =>
    obtain ⟨i, hi, rfl, m, rfl⟩ := hrel
    by_cases hlt : i < n
    · have b1 : (i : Int) < (n : Int) := by omega
      have b2 : (0 : Int) ≤ (i : Int) := by omega
      have b3 : (i : Int) < 1048576 := by omega
      obtain ⟨b, off, rfl, hbl, hcell, hxl⟩ := HA.out i (by rw [HN.out]; exact hlt)
      obtain ⟨b', off', rfl, hbl', hcell', _⟩ := HB.out i (by rw [HN.out]; exact hlt)
      generalize hx : xs.getD i 0 = x at *
      go_wp2_with fail
      go_region_held (fun w' => w'.cell? ⟨b, off + i, none⟩ = some (.float .f32 x) ∧ w'.cell? ⟨b', off' + i, none⟩ = some (.float .f32 x) ∧ ∃ m, w' = w.drewN m) ((refine ⟨by go_keep, by go_keep, ?_⟩; first | exact ⟨m + 1, rfl⟩ | exact ⟨m + 1 + _, rfl⟩ | exact ⟨m + 1 + _ + _, rfl⟩ | exact ⟨m + 1 + _ + _ + _, rfl⟩ | (trace_state; fail)))
        (first | (go_at_call 33; refine (sameFloat_FR _ _ _ (widBits_fr _ _) (widBits_fr _ _) _).mono ?_; rintro e w' ⟨rfl, n, rfl⟩))
      all_goals
        go_wp2_with fail
        go_roundw
        case rel => exact ⟨i + 1, hlt, by simp, _, rfl⟩
        case measure => simp [intOf]; omega
    · obtain rfl : i = n := by omega
      go_wp2_with fail
      go_ret
      exact ⟨rfl, m, rfl⟩
end Go.Proofs.YtjfoimbeflobkabDoor
namespace Go.Proofs.YtjfoimbeflobkabDoor
open Fl Go.RowKit Go.Proofs.YtjfoimbeflobkabDoorW.PrintWords
set_option linter.unusedVariables false

theorem lowF {α : Type} {d : Kd α} {e base : Nat} {w : World} {v : Value} {xs : List α} (h : d.R e w base (fun _ => True) v xs) : d.R e w base (fun k => k < w.heap.size) v xs := Kd.R_mono (Kd.R_bound h) (fun k hk => hk.2.2.1)

theorem F_of_R {e base c n : Nat} {w : World} {A : Option Addr} {ok : Nat → Prop} {xs : List Nat} (h : KF.R e w base ok (.slice A n c) xs) (hx : ∀ x ∈ xs, x < 4294967296) : FloatsAt w w.heap.size A xs ∧ xs.length = n := by
  obtain ⟨h1, h2, h3⟩ := Kd.R_reads' h
  have ho := Kd.own_of_R h
  rw [← h1] at ho
  exact ⟨(floats_of_own ho hx).2, h1.symm⟩

theorem marksF_lt (n : Nat) (hn : n ≤ 256) : ∀ x ∈ marksF n, x < 4294967296 := by
  intro x hx
  obtain ⟨t, ht, rfl⟩ := List.mem_map.1 hx
  have := List.mem_range.1 ht
  exact mkF_lt t (by omega)

theorem markF_step {w0 w : World} {b0 B b1 e1 c : Nat} {A : Option Addr} {l l1 : List Nat} {v1 : Value} (h2 : KF.R 34 w B (fun _ => True) (.slice A l.length c) l) (h1 : KF.R e1 w b1 (fun k => k < B) v1 l1) (K : Below b0 w0 w) (hB : b0 ≤ B) (hw : b0 ≤ w.heap.size) (hl : l.length ≤ 256) :
    Calls Tryd.prog 22 #[.slice A l.length c, .int .i64 1] w fun e w' => e = .returned (.int .i64 (1 + (l.length : Int))) ∧ KF.R 34 w' B (fun _ => True) (.slice A l.length c) (marksF l.length) ∧ KF.R e1 w' b1 (fun k => k < B) v1 l1 ∧ Below b0 w0 w' := by
  have hb := Kd.R_base h2
  refine (laws_markFloat32S _ l hl w B (Kd.own_of_R h2)).mono ?_
  rintro e w' ⟨rfl, ho, hg⟩
  refine ⟨rfl, Kd.R_of_own (by rw [marksF_len]; exact ho) (fun _ _ => trivial), Kd.R_grown h1 hg (fun k hk e => by have := hb k e.symm; omega), Below.grown K hg hw (fun k hk => Nat.le_trans hB (hb k hk))⟩

theorem spec_ReadNumbers (s : ByteArray) (hs : s.size ≤ 1048576) (w : World) :
    Calls Tryd.prog 20 #[.string s] w fun e w' => ∃ v : Value, e = .returned (.tuple #[v, .bool (readF s).2]) ∧ KF.R 34 w' w.heap.size (fun _ => True) v (readF s).1 ∧ Below w.heap.size w w' := by
  have h := spec_l01NRead s hs
  obtain ⟨l, b, hlb⟩ : ∃ l b, readF s = (l, b) := ⟨_, _, rfl⟩
  rw [hlb] at h ⊢
  have H := Lib.hid h
  clear h hlb
  go_enter Tryd.func20, Tryd.ntmps20
  go_wp2_with (first | (go_at_call 35; refine (H.out _).mono ?_; rintro e w1 ⟨v, rfl, hR, hb1⟩; obtain ⟨A1, c1, rfl⟩ := Kd.R_slice hR; have R1 := Lib.hid hR; clear hR) | fail)
  go_ret2
  exact ⟨_, rfl, R1.out, hb1⟩

theorem fnExactReadNumbers_walk (w : World) (s : ByteArray) (ws : s.size ≤ maxLen) (hz : TabZ w) (he : Errs w) (hm : MaxSome w) :
    Calls Tryd.prog 6 #[.string s] w fun e w' => e = .returned (.bool true) ∧ Below w.heap.size w w' := by
  by_cases hl : s.size ≤ 1048576
  · have b1 : ¬ (1048576 : Int) < (s.size : Int) := by omega
    have h1 := spec_ReadNumbers s hl
    have h2 := impl_ReadNumbers s hl
    have h64 := readF_small s
    obtain ⟨l, b, hlb⟩ : ∃ l b, readF s = (l, b) := ⟨_, _, rfl⟩
    rw [hlb] at h1 h2 h64
    have H1 : Hid (∀ w, Calls Tryd.prog 20 #[.string s] w fun e w' => ∃ v : Value, e = .returned (.tuple #[v, .bool b]) ∧ KF.R 34 w' w.heap.size (fun _ => True) v l ∧ Below w.heap.size w w') := h1
    have H2 : Hid (∀ w, MaxSome w → Errs w → TabZ w → Calls Tryd.prog 21 #[.string s] w fun e w' => ∃ v : Value, e = .returned (.tuple #[v, .bool b]) ∧ KF.R 34 w' w.heap.size (fun _ => True) v l ∧ Below w.heap.size w w') := h2
    have HT := Lib.hid hz
    have HE := Lib.hid he
    have HM := Lib.hid hm
    have hlen : l.length ≤ 256 := h64.1
    have hlen2 : l.length ≤ 1048576 := by omega
    have HX : Hid (∀ x ∈ l, x < 4294967296) := h64.2
    have b2 : ¬ (1 + (l.length : Int)) < 0 := by omega
    clear h1 h2 hlb hz he ws hm h64
    go_enter Tryd.func6, Tryd.ntmps6
    go_wp2_with (first
      | (go_at_call 20; refine (H1.out _).mono ?_; rintro e w1 ⟨v1, rfl, hR, K1⟩; obtain ⟨A1, c1, rfl⟩ := Kd.R_slice hR; have R1 := Lib.hid (lowF hR); clear hR)
      | (go_at_call 21; first
          | (refine (H2.out _ (HM.out.below K5) (HE.out.below K5) (HT.out.below K5)).mono ?_; rintro e w6 ⟨v6, rfl, hR, hb⟩; obtain ⟨A6, c6, rfl⟩ := Kd.R_slice hR; have R6 := Lib.hid hR; have R1f := Lib.hid (Kd.R_below R1e.out hb); have R2f := Lib.hid (Kd.R_below R2e.out hb); have K6 := hex_next K5 hb; clear hR hb)
          | (refine (H2.out _ (HM.out.below K1) (HE.out.below K1) (HT.out.below K1)).mono ?_; rintro e w2 ⟨v2, rfl, hR, hb⟩; obtain ⟨A2, c2, rfl⟩ := Kd.R_slice hR; have R2b := Lib.hid hR; have R1b := Lib.hid (Kd.R_below R1.out hb); have K2 := hex_next K1 hb; clear hR hb))
      | (go_at_call 16; first
          | (refine (laws_eqFloat32S _ _ _ _ l l.length rfl hlen2 _ (F_of_R R6.out HX.out).1 (F_of_R R1f.out HX.out).1).mono ?_; rintro e w7 ⟨rfl, m7, rfl⟩; have R2g := Lib.hid (Kd.R_drewN R2f.out m7); have K7 := pw_below_drewN K6 m7)
          | (refine (laws_eqFloat32S _ _ _ _ l l.length rfl hlen2 _ (F_of_R R2b.out HX.out).1 (F_of_R R1b.out HX.out).1).mono ?_; rintro e w3 ⟨rfl, m3, rfl⟩; have R2c := Lib.hid (Kd.R_drewN R2b.out m3); have R1c := Lib.hid (Kd.R_drewN R1b.out m3); have K3 := pw_below_drewN K2 m3))
      | (go_at_call 22; refine (markF_step R2c.out R1c.out K3 K1.size K3.size hlen).mono ?_; rintro e w4 ⟨rfl, hR2, hR1, K4⟩; have R2d := Lib.hid hR2; have R1d := Lib.hid hR1; clear hR2 hR1)
      | (go_at_call 23; first
          | (refine (laws_heldFloat32S _ _ l.length hlen _ (F_of_R R2g.out (marksF_lt _ hlen)).1).mono ?_; rintro e w8 ⟨rfl, m8, rfl⟩; have K8 := pw_below_drewN K7 m8)
          | (refine (laws_heldFloat32S _ _ l.length hlen _ (F_of_R R2d.out (marksF_lt _ hlen)).1).mono ?_; rintro e w5 ⟨rfl, m5, rfl⟩; have R2e := Lib.hid (Kd.R_drewN R2d.out m5); have R1e := Lib.hid (Kd.R_drewN R1d.out m5); have K5 := pw_below_drewN K4 m5))
      | fail)
    go_ret
    exact ⟨rfl, by first | exact K8 | exact pw_below_drewN K6 _⟩
  · have b1 : (1048576 : Int) < (s.size : Int) := by omega
    go_enter Tryd.func6, Tryd.ntmps6
    go_wp2_with fail
    go_ret
    exact ⟨rfl, Below.refl _ _⟩

end Go.Proofs.YtjfoimbeflobkabDoor
namespace Go.Proofs.YtjfoimbeflobkabDoor
open Go
set_option linter.unusedVariables false
variable {H : Type} {enc : TypeId × Value → H}

theorem returnsInHanded_shaped_and {a : Assume} {C : Checked} {os : Os} {f : FuncId} {fn : Func} {s : ChangeSpec} {conds : List PathCond} {apart fresh handsOn again : Bool} {X : World → Array Value → Prop}
    (hX : ∀ (w w' : World) (args : Array Value), w.heap = w'.heap → X w args → X w' args)
    (own : ownKnob C.prog.godebug = none) (started : os.Started) (noInit : C.prog.inits.idxOf? f = none) (hfn : C.prog.funcs[f]? = some fn)
    (witness : ∃ (w : World) (tape : Tape) (i : Input), w.os = os ∧ (w.forCall tape i).Shaped C.prog ∧ i.vars = [] ∧ Input.okWide C.prog (w.forCall tape i) .any w.heap.size f i ∧
      ((s.pre enc C.prog fn conds apart (w.forCall tape i).memory i.args ∧ X (w.forCall tape i).memory i.args) ∧ sizedMet enc C.prog fn (OpenSpec.ofChange s) apart (w.forCall tape i).memory i.args) ∧ a.holds C.prog (lone (Frame.enter C.prog f i.args .normal) [] (w.forCall tape i)))
    (contract : ∀ (W : World) (base : Nat) (args : Array Value) (ds gs : List (DataW H)) (before : List MemPlace),
      (∀ (j : Nat) t v, fn.params[j]? = some t → args[j]? = some v → Value.okWide C.prog W .any base t v) →
      DataW.Whole enc C.prog fn.params.toList s.vars apart W args.toList ds gs before →
      conds.all (PathCond.test C.prog ⟨fn.params.toList, ds, s.plain.varTypes C.prog, gs⟩) = true →
      (DataW.weightsEach C.prog (fn.params.toList ++ s.plain.varTypes C.prog) (ds ++ gs)).all (· ≤ reachBytes) = true → X W args → W.ShapedOpen C.prog →
      Calls C.prog f args W fun e W' => ∃ v, e = .returned v ∧ s.post enc C.prog fn apart fresh handsOn again W args v W') :
    ReturnsInHanded a C os f .any (fun w args => (s.pre enc C.prog fn conds apart w args ∧ X w args) ∧ sizedMet enc C.prog fn (OpenSpec.ofChange s) apart w args) (s.post enc C.prog fn apart fresh handsOn again) := by
  refine returnsInHanded_of_calls own started noInit witness ?_
  intro w tape i _ hsh _ hok hpre _
  obtain ⟨_, _, _, fn', hfn', _, _, _, _, hval⟩ := hok
  obtain rfl : fn' = fn := Option.some.inj (hfn'.symm.trans hfn)
  obtain ⟨⟨⟨ds, gs, before, hw, hc⟩, hx⟩, hz⟩ := hpre
  have hw' := DataW.Whole.of_heap (w' := w.forCall tape i) (by rfl) hw
  refine (contract (w.forCall tape i) w.heap.size i.args ds gs before hval hw' hc (hz.weights hw) (hX _ _ _ (by rfl) hx) hsh).mono fun e W' ⟨v, he, hp⟩ => ?_
  subst he
  exact ChangeSpec.post_blind hp

theorem MaxSome.of {w : World} (h : w.ShapedOpen Tryd.prog) : MaxSome w :=
  cell_of_shapedOpen_int (P := Tryd.prog) (g := 4) (t := 3) (zero := #[.int .i64 0]) h (of_decide_eq_true (by kernel_rfl)) (by kernel_rfl) rfl (by kernel_rfl) (by kernel_rfl) Tryd.underlying3
end Go.Proofs.YtjfoimbeflobkabDoor
