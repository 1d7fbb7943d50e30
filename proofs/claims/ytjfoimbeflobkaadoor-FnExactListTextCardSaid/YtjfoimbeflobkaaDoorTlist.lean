/-
  Plain facts: the text of a list of numbers, on both sides.
-/
import Derived.Test.YtjfoimbeflobkaaDoorTread
import Derived.Test.YtjfoimbeflobkaaDoorTslice
import Derived.Test.YtjfoimbeflobkaaDoorPListTextx1
import Derived.Test.YtjfoimbeflobkaaDoorPareValuesx1
import Derived.Lib.Join
import Derived.Lib.SmallJoins
namespace Go.Proofs.YtjfoimbeflobkaaDoor
open Go.RowKit Go.Proofs.YtjfoimbeflobkaaDoorW.PrintWords
set_option linter.unusedVariables false

def inRange (x : Int) : Bool := decide (-1000000000000000 ≤ x ∧ x ≤ 1000000000000000)
/-- Few numbers, all in range. -/
def areB (l : List Int) : Bool := l.all inRange && decide (l.length ≤ 64)

theorem drop_get (l : List Int) (i : Nat) (h : i < l.length) : l.drop i = l[i] :: l.drop (i + 1) := List.drop_eq_getElem_cons h

theorem specList_loop (l : List Int) (hl : l.length ≤ 1048576) (d : Nat) : ∀ (k i : Nat), i ≤ l.length → l.length - i = d → d < k → PListText.spec_l01List.l0 k l (i : Int) = some ((l.drop i).all inRange && decide (l.length ≤ 64)) := by
  induction d with
  | zero =>
    intro k i hi hd hk
    obtain ⟨k, rfl⟩ : ∃ j, k = j + 1 := ⟨k - 1, by omega⟩
    simp only [PListText.spec_l01List.l0]
    rw [if_neg (by omega), List.drop_of_length_le (by omega)]
    simp; omega
  | succ d ih =>
    intro k i hi hd hk
    obtain ⟨k, rfl⟩ : ∃ j, k = j + 1 := ⟨k - 1, by omega⟩
    have hil : i < l.length := by omega
    have hrec := ih k (i + 1) (by omega) (by omega) (by omega)
    simp only [PListText.spec_l01List.l0, PListText.spec_l00In.f]
    rw [if_pos (by omega), if_pos (by omega), rd_get l i hil, wrap_fit (x := (i : Int) + 1) (by omega) (by omega), show (i : Int) + 1 = ((i + 1 : Nat) : Int) by omega, hrec, drop_get l i hil, List.all_cons]
    unfold inRange
    by_cases a : -1000000000000000 ≤ l[i]
    · by_cases b : l[i] ≤ 1000000000000000
      · simp [a, b]
      · simp [a, b]
    · simp [a]

theorem specList_f (l : List Int) (hl : l.length ≤ 1048576) (k : Nat) (hk : l.length < k) : PListText.spec_l01List.f k l = some (areB l) :=
  specList_loop l hl l.length k 0 (by omega) (by omega) hk

theorem implList_loop (l : List Int) (hl : l.length ≤ 1048576) (d : Nat) : ∀ (k i : Nat), i ≤ l.length → l.length - i = d → d < k → PareValues.impl_areValues.l0 k l l (l.length : Int) (i : Int) = some ((l.drop i).all inRange && decide (l.length ≤ 64)) := by
  induction d with
  | zero =>
    intro k i hi hd hk
    obtain ⟨k, rfl⟩ : ∃ j, k = j + 1 := ⟨k - 1, by omega⟩
    simp only [PareValues.impl_areValues.l0]
    rw [if_neg (by omega), List.drop_of_length_le (by omega)]
    simp; omega
  | succ d ih =>
    intro k i hi hd hk
    obtain ⟨k, rfl⟩ : ∃ j, k = j + 1 := ⟨k - 1, by omega⟩
    have hil : i < l.length := by omega
    have hrec := ih k (i + 1) (by omega) (by omega) (by omega)
    simp only [PareValues.impl_areValues.l0, PareValues.impl_isValue.f, PareValues.impl_within.f]
    rw [if_pos (by omega), if_pos (by omega), if_pos (by omega), rd_get l i hil, wrap_fit (x := (i : Int) + 1) (by omega) (by omega), show (i : Int) + 1 = ((i + 1 : Nat) : Int) by omega, hrec, drop_get l i hil, List.all_cons]
    unfold inRange
    by_cases a : -1000000000000000 ≤ l[i]
    · by_cases b : l[i] ≤ 1000000000000000
      · simp [a, b]
      · simp [a, b]
    · simp [a]

theorem implList_f (l : List Int) (hl : l.length ≤ 1048576) : PareValues.impl_areValues.f (l.length + 1) l = some (areB l) :=
  implList_loop l hl l.length _ 0 (by omega) (by omega) (by omega)

/-- The text of a list. -/
def textV (l : List Int) : ByteArray := if l = [] then ⟨#[110, 111, 110, 101]⟩ else ⟨(Lib.join (l.map Lib.itoa) [44]).toArray⟩

def tailL (l : List Int) : List UInt8 := Lib.joinTail [44] (l.map Lib.itoa)

theorem tailL_cons (x : Int) (r : List Int) : tailL (x :: r) = 44 :: (Lib.itoa x ++ tailL r) := by
  simp [tailL, Lib.joinTail]

theorem dec_list (k : Nat) (hk : 50 ≤ k) (n : Int) (h0 : -9223372036854775808 ≤ n) (h1 : n ≤ 9223372036854775807) : PListText.spec_l01Dec.f k n = some (decS n) := by
  have e : ∀ k, (∀ a xs r, PListText.spec_l01Dec.l0 k a xs r = Pl01Value.spec_l01Dec.l0 k a xs r) ∧ (∀ a xs r b, PListText.spec_l01Dec.j1 k a xs r b = Pl01Value.spec_l01Dec.j1 k a xs r b) := by
    intro k
    induction k with
    | zero => exact ⟨fun _ _ _ => rfl, fun _ _ _ _ => rfl⟩
    | succ k ih =>
      refine ⟨fun a xs r => ?_, fun a xs r b => ?_⟩
      · simp only [PListText.spec_l01Dec.l0, Pl01Value.spec_l01Dec.l0, ih.2]
      · simp only [PListText.spec_l01Dec.j1, Pl01Value.spec_l01Dec.j1, ih.1]
  have := dec_itoa k hk n h0 h1
  unfold Pl01Value.spec_l01Dec.f at this
  unfold PListText.spec_l01Dec.f
  rw [(e k).1]
  exact this

theorem inRange_iff {x : Int} : inRange x = true ↔ -1000000000000000 ≤ x ∧ x ≤ 1000000000000000 := decide_eq_true_iff

theorem text_loop (l : List Int) (hl : l.length ≤ 64) (hall : ∀ x ∈ l, inRange x = true) (d : Nat) : ∀ (k i : Nat) (acc : ByteArray), i ≤ l.length → l.length - i = d → d + 51 ≤ k → acc.size ≤ 100 * i →
    PListText.spec_l01Text.l0 k l acc (i : Int) = some ⟨(acc.data.toList ++ tailL (l.drop i)).toArray⟩ := by
  induction d with
  | zero =>
    intro k i acc hi hd hk ha
    obtain ⟨k, rfl⟩ : ∃ j, k = j + 1 := ⟨k - 1, by omega⟩
    simp only [PListText.spec_l01Text.l0]
    rw [if_neg (by omega), List.drop_of_length_le (by omega)]
    congr 1
    exact ByteArray.ext (Array.toList_inj.1 (by simp [tailL, Lib.joinTail]))
  | succ d ih =>
    intro k i acc hi hd hk ha
    obtain ⟨k, rfl⟩ : ∃ j, k = j + 1 := ⟨k - 1, by omega⟩
    have hil : i < l.length := by omega
    obtain ⟨b0, b1⟩ := inRange_iff.1 (hall l[i] (List.getElem_mem hil))
    have hsz := decS_size b0 b1
    have e1 : (⟨#[44]⟩ ++ decS l[i] : ByteArray).size = 1 + (decS l[i]).size := by rw [ByteArray.size_append]; rfl
    have e2 : (acc ++ (⟨#[44]⟩ ++ decS l[i]) : ByteArray).size = acc.size + (1 + (decS l[i]).size) := by rw [ByteArray.size_append, e1]
    simp only [PListText.spec_l01Text.l0]
    rw [if_pos (by omega), if_pos (by omega), rd_get l i hil, dec_list k (by omega) _ (by omega) (by omega)]
    simp only [Option.bind_some]
    rw [if_pos (by omega), if_pos (by rw [e1]; omega), wrap_fit (x := (i : Int) + 1) (by omega) (by omega), show (i : Int) + 1 = ((i + 1 : Nat) : Int) by omega,
      ih k (i + 1) _ (by omega) (by omega) (by omega) (by rw [e2]; omega), drop_get l i hil, tailL_cons]
    congr 2
    rw [Joins.data_append, Joins.data_append, decS_list]
    simp

theorem text_f (l : List Int) (hl : l.length ≤ 64) (hall : ∀ x ∈ l, inRange x = true) (k : Nat) (hk : 200 ≤ k) : PListText.spec_l01Text.f k l = some (textV l) := by
  unfold PListText.spec_l01Text.f textV
  cases l with
  | nil => rw [if_pos (show (([] : List Int).length : Int) = 0 from rfl), if_pos rfl]
  | cons x r =>
    obtain ⟨b0, b1⟩ := inRange_iff.1 (hall x (by simp))
    have hsz := decS_size b0 b1
    rw [if_neg (by simp; omega), if_pos (by simp), if_neg (by simp)]
    have hx : rd (x :: r) 0 = x := rfl
    rw [hx, dec_list k (by omega) _ (by omega) (by omega)]
    simp only [Option.bind_some]
    have h := text_loop (x :: r) hl hall r.length k 1 (decS x) (by simp) (by simp) (by simp at hl; omega) (by omega)
    have h1 : ((1 : Nat) : Int) = 1 := rfl
    rw [h1] at h
    rw [h]
    congr 2
    rw [List.map_cons, Lib.join_cons, decS_list]
    rfl

theorem areB_true {l : List Int} (h : areB l = true) : l.length ≤ 64 ∧ ∀ x ∈ l, inRange x = true := by
  unfold areB at h
  simp only [Bool.and_eq_true, List.all_eq_true, decide_eq_true_eq] at h
  exact ⟨h.2, h.1⟩

/-- The reference's text of a list. -/
theorem specListText_f (l : List Int) (hl : l.length ≤ 1048576) : PListText.spec_ListText.f (l.length + 300) l = some (if areB l then (textV l, true) else (⟨#[]⟩, false)) := by
  unfold PListText.spec_ListText.f
  rw [specList_f l hl _ (by omega)]
  simp only [Option.bind_some]
  cases h : areB l
  · rfl
  · obtain ⟨h1, h2⟩ := areB_true h
    rw [if_pos rfl, text_f l h1 h2 _ (by omega)]
    rfl

theorem join_len (l : List Int) (hl : l.length ≤ 64) (hall : ∀ x ∈ l, inRange x = true) : (Lib.join (l.map Lib.itoa) [44]).length ≤ 100 * (l.length + 1) := by
  have ht : ∀ r : List Int, (∀ x ∈ r, inRange x = true) → (tailL r).length ≤ 100 * r.length := by
    intro r
    induction r with
    | nil => intro _; simp [tailL, Lib.joinTail]
    | cons y r ih =>
      intro h
      obtain ⟨b0, b1⟩ := inRange_iff.1 (h y (by simp))
      have hsz := decS_size b0 b1
      have e : (decS y).size = (Lib.itoa y).length := by simp [decS, ByteArray.size]
      have := ih (fun z hz => h z (by simp [hz]))
      rw [tailL_cons]
      simp only [List.length_cons, List.length_append]
      omega
  cases l with
  | nil => simp [Lib.join_nil]
  | cons x r =>
    obtain ⟨b0, b1⟩ := inRange_iff.1 (hall x (by simp))
    have hsz := decS_size b0 b1
    have e : (decS x).size = (Lib.itoa x).length := by simp [decS, ByteArray.size]
    have := ht r (fun z hz => hall z (by simp [hz]))
    unfold tailL at this
    rw [List.map_cons, Lib.join_cons]
    simp only [List.length_cons, List.length_append]
    omega
end Go.Proofs.YtjfoimbeflobkaaDoor
