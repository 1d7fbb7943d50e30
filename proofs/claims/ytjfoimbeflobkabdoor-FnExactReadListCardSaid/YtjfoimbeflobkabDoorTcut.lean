/-
  Plain facts: a text cut at its commas, on both sides; the reference's reading of a list of numbers.
-/
import Derived.Test.YtjfoimbeflobkabDoorTread
import Derived.Test.YtjfoimbeflobkabDoorTeqI
import Derived.Test.YtjfoimbeflobkabDoorPReadListx2
import Derived.Lib.SplitLaws
namespace Go.Proofs.YtjfoimbeflobkabDoor
open Go.RowKit Go.Proofs.YtjfoimbeflobkabDoorW.PrintWords
set_option linter.unusedVariables false

/-- The comma, as a text. -/
def commaS : ByteArray := ⟨#[44]⟩
def noneS : ByteArray := ⟨#[110, 111, 110, 101]⟩
/-- A text's pieces between commas. -/
def cutS (s : ByteArray) : List ByteArray := Lib.splitB commaS 0 (Lib.countB s commaS) s

def cutL : List UInt8 → List UInt8 → List (List UInt8)
  | cur, [] => [cur]
  | cur, c :: r => if c = 44 then cur :: cutL [] r else cutL (cur ++ [c]) r

theorem index_comma (r : List UInt8) : ∀ cur : List UInt8, (∀ c ∈ cur, c ≠ 44) → Lib.index (cur ++ 44 :: r) [44] = (cur.length : Int)
  | [], _ => by simp [Lib.index]
  | c :: t, h => by
    have hc := h c (by simp)
    have ih := index_comma r t (fun d hd => h d (by simp [hd]))
    rw [List.cons_append]
    unfold Lib.index
    rw [if_neg (by simp; exact fun e => hc e.symm), ih, if_neg (by simp)]
    simp

theorem count_cur : ∀ cur : List UInt8, (∀ c ∈ cur, c ≠ 44) → List.count 44 cur = 0 := fun cur h => List.count_eq_zero.2 (fun hm => h 44 hm rfl)

theorem split_cutL : ∀ (l cur : List UInt8), (∀ c ∈ cur, c ≠ 44) → Lib.splitK [44] 0 (Lib.count (cur ++ l) [44]) (cur ++ l) = cutL cur l
  | [], cur, h => by
    rw [Lib.count_one, List.append_nil, count_cur cur h]
    rfl
  | c :: r, cur, h => by
    unfold cutL
    by_cases hc : c = 44
    · subst hc
      rw [if_pos rfl]
      have ih := split_cutL r [] (by simp)
      have hi := index_comma r cur h
      have e : Lib.count (cur ++ 44 :: r) [44] = Lib.count r [44] + 1 := by
        rw [Lib.count_one, Lib.count_one, List.count_append, count_cur cur h, List.count_cons]; simp
      rw [e]
      have e2 : (Int.toNat (cur.length : Int)) + 0 = cur.length := by simp
      have e3 : (Int.toNat (cur.length : Int)) + [(44 : UInt8)].length = cur.length + 1 := by simp
      unfold Lib.splitK
      rw [hi, if_neg (by simp), e2, e3]
      have a1 : (cur ++ 44 :: r).take cur.length = cur := by simp
      have a2 : (cur ++ 44 :: r).drop (cur.length + 1) = r := by
        rw [← List.drop_drop, List.drop_left]; rfl
      rw [a1, a2]
      rw [List.nil_append] at ih
      rw [ih]
    · rw [if_neg hc]
      have ih := split_cutL r (cur ++ [c]) (by
        intro d hd
        rcases List.mem_append.1 hd with hd | hd
        · exact h d hd
        · rw [List.mem_singleton.1 hd]; exact hc)
      rw [List.append_assoc] at ih
      exact ih

theorem cutS_lists (s : ByteArray) : (cutS s).map (·.data.toList) = cutL [] s.data.toList := by
  unfold cutS
  rw [Lib.splitB_data]
  exact split_cutL s.data.toList [] (by simp)

theorem list_texts {a b : List ByteArray} (h : a.map (·.data.toList) = b.map (·.data.toList)) : a = b := by
  have hinj : ∀ x y : ByteArray, x.data.toList = y.data.toList → x = y := fun x y e => ByteArray.ext (Array.toList_inj.1 e)
  induction a generalizing b with
  | nil => cases b with
    | nil => rfl
    | cons _ _ => cases h
  | cons x r ih => cases b with
    | nil => cases h
    | cons y t =>
      rw [List.map_cons, List.map_cons] at h
      injection h with h1 h2
      rw [hinj x y h1, ih h2]

theorem cut_take (t : List UInt8) (f i : Nat) (hf : f ≤ i) (hi : i < t.length) : (t.drop f).take (i + 1 - f) = (t.drop f).take (i - f) ++ [t[i]] := by
  have h : i - f < (t.drop f).length := by rw [List.length_drop]; omega
  rw [show i + 1 - f = (i - f) + 1 by omega, List.take_succ_eq_append_getElem h]
  congr 2
  rw [List.getElem_drop]
  congr 1; omega

theorem drop_cons {α : Type} (l : List α) (i : Nat) (h : i < l.length) : l.drop i = l[i] :: l.drop (i + 1) := List.drop_eq_getElem_cons h

theorem extract_list (s : ByteArray) (f i : Nat) : (s.extract f i).data.toList = (s.data.toList.drop f).take (i - f) := by
  rw [ByteArray.data_extract, Array.toList_extract, List.extract_eq_take_drop]

theorem cut_loop (s : ByteArray) (hs : s.size ≤ 1048576) (d : Nat) : ∀ (k f i : Nat) (out : List ByteArray), i ≤ s.size → s.size - i = d → f ≤ i → out.length ≤ i → d + 2 ≤ k →
    ∃ r, PReadList.spec_l01Cut.l0 k s 44 out (f : Int) (i : Int) = some r ∧ r.map (·.data.toList) = out.map (·.data.toList) ++ cutL ((s.data.toList.drop f).take (i - f)) (s.data.toList.drop i) := by
  have hsz : s.data.toList.length = s.size := data_length s
  induction d with
  | zero =>
    intro k f i out hi hd hf ho hk
    obtain ⟨k, rfl⟩ : ∃ j, k = j + 1 := ⟨k - 1, by omega⟩
    obtain rfl : i = s.size := by omega
    simp only [PReadList.spec_l01Cut.l0]
    rw [if_pos (by omega), if_pos trivial, if_pos (by omega), if_pos (by omega), if_pos (by omega), wrap_fit (by omega) (by omega)]
    obtain ⟨k, rfl⟩ : ∃ j, k = j + 1 := ⟨k - 1, by omega⟩
    simp only [PReadList.spec_l01Cut.l0]
    rw [if_neg (by omega)]
    refine ⟨_, rfl, ?_⟩
    rw [List.map_append, List.drop_of_length_le (by omega : s.data.toList.length ≤ s.size)]
    rw [List.map_cons, Int.toNat_natCast, Int.toNat_natCast, extract_list]
    rfl
  | succ d ih =>
    intro k f i out hi hd hf ho hk
    obtain ⟨k, rfl⟩ : ∃ j, k = j + 1 := ⟨k - 1, by omega⟩
    have hil : i < s.data.toList.length := by omega
    have hb := bt_get s i hil
    simp only [PReadList.spec_l01Cut.l0]
    rw [if_pos (by omega), if_neg (by omega), if_pos (by omega), if_pos (by omega), hb]
    by_cases hc : s.data.toList[i] = 44
    · rw [if_pos (by rw [hc]; rfl), if_pos (by omega), if_pos (by omega), if_pos (by omega), wrap_fit (by omega) (by omega), show (i : Int) + 1 = ((i + 1 : Nat) : Int) by omega]
      obtain ⟨r, h1, h2⟩ := ih k (i + 1) (i + 1) (out ++ [s.extract (f : Int).toNat (i : Int).toNat]) (by omega) (by omega) (Nat.le_refl _) (by rw [List.length_append]; simp; omega) (by omega)
      refine ⟨r, h1, ?_⟩
      rw [h2, List.map_append, List.append_assoc, drop_cons s.data.toList i hil, hc]
      have e : cutL ((s.data.toList.drop f).take (i - f)) (44 :: s.data.toList.drop (i + 1)) = (s.data.toList.drop f).take (i - f) :: cutL [] (s.data.toList.drop (i + 1)) := if_pos rfl
      rw [e, List.map_cons, Int.toNat_natCast, Int.toNat_natCast, extract_list]
      simp
    · rw [if_neg (by intro h; apply hc; apply UInt8.toNat_inj.1; show _ = 44; omega), wrap_fit (by omega) (by omega), show (i : Int) + 1 = ((i + 1 : Nat) : Int) by omega]
      obtain ⟨r, h1, h2⟩ := ih k f (i + 1) out (by omega) (by omega) (by omega) (by omega) (by omega)
      refine ⟨r, h1, ?_⟩
      have e : cutL ((s.data.toList.drop f).take (i - f)) (s.data.toList[i] :: s.data.toList.drop (i + 1)) = cutL ((s.data.toList.drop f).take (i - f) ++ [s.data.toList[i]]) (s.data.toList.drop (i + 1)) := if_neg hc
      rw [h2, cut_take _ _ _ hf hil, drop_cons s.data.toList i hil, e]

/-- The reference cuts as the library splits. -/
theorem cut_f (s : ByteArray) (hs : s.size ≤ 1048576) (k : Nat) (hk : s.size + 2 ≤ k) : PReadList.spec_l01Cut.f k s 44 = some (cutS s) := by
  obtain ⟨r, h1, h2⟩ := cut_loop s hs s.size k 0 0 [] (Nat.zero_le _) (by omega) (Nat.le_refl _) (Nat.le_refl _) hk
  have e : r = cutS s := by
    apply list_texts
    rw [h2, cutS_lists]
    simp
  rw [e] at h1
  exact h1

/-! ### The numbers of a list's text -/

noncomputable def readAll : List ByteArray → Option (List Int)
  | [] => some []
  | p :: r => match readV p with
    | none => none
    | some n => (readAll r).map (n :: ·)

theorem readAll_len : ∀ (ps : List ByteArray) (l : List Int), readAll ps = some l → l.length = ps.length
  | [], l, h => by cases h; rfl
  | p :: r, l, h => by
    unfold readAll at h
    split at h
    · cases h
    · cases hr : readAll r with
      | none => rw [hr] at h; cases h
      | some l' =>
        rw [hr] at h
        cases h
        simp [readAll_len r l' hr]

/-- What a text reads as. -/
noncomputable def readL (s : ByteArray) : List Int × Bool := if s = noneS then ([], true) else if 64 < (cutS s).length then ([], false) else match readAll (cutS s) with | none => ([], false) | some l => (l, true)

theorem value_mono {s : ByteArray} {r : Int × Bool} (h : PReadList.spec_l01Value.f 100 s = some r) (k : Nat) (hk : 100 ≤ k) : PReadList.spec_l01Value.f k s = some r := by
  induction k with
  | zero => omega
  | succ k ih =>
    by_cases e : 100 = k + 1
    · rw [← e]; exact h
    · exact PReadList.spec_l01Value.mono s k r (ih (by omega))

theorem dec_same (k : Nat) : (∀ a xs r, PReadList.spec_l01Dec.l0 k a xs r = Pl01Value.spec_l01Dec.l0 k a xs r) ∧ (∀ a xs r b, PReadList.spec_l01Dec.j1 k a xs r b = Pl01Value.spec_l01Dec.j1 k a xs r b) := by
  induction k with
  | zero => exact ⟨fun _ _ _ => rfl, fun _ _ _ _ => rfl⟩
  | succ k ih =>
    refine ⟨fun a xs r => ?_, fun a xs r b => ?_⟩
    · simp only [PReadList.spec_l01Dec.l0, Pl01Value.spec_l01Dec.l0, ih.2]
    · simp only [PReadList.spec_l01Dec.j1, Pl01Value.spec_l01Dec.j1, ih.1]

theorem dec_same_f (k : Nat) (a : Int) : PReadList.spec_l01Dec.f k a = Pl01Value.spec_l01Dec.f k a := by
  unfold PReadList.spec_l01Dec.f Pl01Value.spec_l01Dec.f
  exact (dec_same k).1 _ _ _

theorem in_same (a b c : Int) : PReadList.spec_l00In.f a b c = Pl01Value.spec_l00In.f a b c := rfl

theorem value_same (k : Nat) : (∀ s b, PReadList.spec_l01Value.j0 k s b = Pl01Value.spec_l01Value.j0 k s b) ∧ (∀ s a b, PReadList.spec_l01Value.l0 k s a b = Pl01Value.spec_l01Value.l0 k s a b) ∧ (∀ s a, PReadList.spec_l01Value.j2 k s a = Pl01Value.spec_l01Value.j2 k s a) := by
  induction k with
  | zero => exact ⟨fun _ _ => rfl, fun _ _ _ => rfl, fun _ _ => rfl⟩
  | succ k ih =>
    obtain ⟨h0, h1, h2⟩ := ih
    refine ⟨fun s b => ?_, fun s a b => ?_, fun s a => ?_⟩
    · simp only [PReadList.spec_l01Value.j0, Pl01Value.spec_l01Value.j0, h1]
    · simp only [PReadList.spec_l01Value.l0, Pl01Value.spec_l01Value.l0, h1, h2]
    · simp only [PReadList.spec_l01Value.j2, Pl01Value.spec_l01Value.j2, in_same, dec_same_f]

theorem value_f (s : ByteArray) (k : Nat) (hk : 100 ≤ k) : PReadList.spec_l01Value.f k s = some ((readV s).getD 0, (readV s).isSome) := by
  refine value_mono ?_ k hk
  have h := spec_read s
  unfold Pl01Value.spec_l01Value.f at h
  unfold PReadList.spec_l01Value.f
  simp only [(value_same 100).1]
  exact h

theorem rdOf_get (l : List ByteArray) (i : Nat) (h : i < l.length) : rdOf ByteArray.empty l (i : Int) = l[i] := by
  unfold rdOf
  rw [Int.toNat_natCast, List.getD_eq_getElem?_getD, List.getElem?_eq_getElem h]; rfl

theorem numbers_loop (ps : List ByteArray) (hp : ps.length ≤ 64) (d : Nat) : ∀ (k i : Nat) (out : List Int), i ≤ ps.length → ps.length - i = d → d + 101 ≤ k → out.length ≤ i →
    PReadList.spec_l01Numbers.l0 k out ps (i : Int) = some (match readAll (ps.drop i) with | none => ([], false) | some l => (out ++ l, true)) := by
  induction d with
  | zero =>
    intro k i out hi hd hk ho
    obtain ⟨k, rfl⟩ : ∃ j, k = j + 1 := ⟨k - 1, by omega⟩
    simp only [PReadList.spec_l01Numbers.l0]
    rw [if_neg (by omega), List.drop_of_length_le (by omega)]
    simp [readAll]
  | succ d ih =>
    intro k i out hi hd hk ho
    obtain ⟨k, rfl⟩ : ∃ j, k = j + 1 := ⟨k - 1, by omega⟩
    have hil : i < ps.length := by omega
    simp only [PReadList.spec_l01Numbers.l0]
    rw [if_pos (by omega), if_pos (by omega), rdOf_get ps i hil, value_f _ k (by omega), drop_cons ps i hil]
    simp only [Option.bind_some, readAll]
    cases hv : readV ps[i] with
    | none => rfl
    | some n =>
      simp only [Option.isSome_some, if_true, Option.getD_some]
      rw [if_pos (by omega), wrap_fit (by omega) (by omega), show (i : Int) + 1 = ((i + 1 : Nat) : Int) by omega, ih k (i + 1) (out ++ [n]) (by omega) (by omega) (by omega) (by simp; omega)]
      cases readAll (ps.drop (i + 1)) with
      | none => rfl
      | some l => simp

theorem readList_f (s : ByteArray) (hs : s.size ≤ 1048576) : PReadList.spec_ReadList.f (s.size + 300) s = some (readL s) := by
  unfold PReadList.spec_ReadList.f PReadList.spec_l01Numbers.f readL
  simp only [Option.bind_some]
  have e : (s.toList = [110, 111, 110, 101]) ↔ s = noneS := by
    rw [ByteArray.toList_eq]
    constructor
    · intro h
      exact ByteArray.ext (Array.toList_inj.1 h)
    · intro h; rw [h]; rfl
  by_cases hn : s = noneS
  · rw [if_pos (e.2 hn), if_pos hn]; rfl
  · rw [if_neg (fun h => hn (e.1 h)), if_neg hn, cut_f s hs _ (by omega)]
    simp only [Option.bind_some]
    by_cases h64 : 64 < (cutS s).length
    · rw [if_pos (by omega), if_pos h64]; rfl
    · rw [if_neg (by omega), if_neg h64]
      have h := numbers_loop (cutS s) (by omega) (cutS s).length (s.size + 300) 0 [] (Nat.zero_le _) (by omega) (by omega) (Nat.le_refl _)
      have h0 : ((0 : Nat) : Int) = 0 := rfl
      rw [h0, List.drop_zero] at h
      rw [h]
      cases readAll (cutS s) <;> rfl
end Go.Proofs.YtjfoimbeflobkabDoor
