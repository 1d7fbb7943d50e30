/-
  Plain facts: what a decimal text reads as, on both sides.
-/
import Derived.Test.YtjfoimbeflobkabDoorTdec
import Derived.Lib.ParseIntB
namespace Go.Proofs.YtjfoimbeflobkabDoor
open Go.RowKit Go.Proofs.YtjfoimbeflobkabDoor.Pl01Value Go.Proofs.YtjfoimbeflobkabDoorW.PrintWords
set_option linter.unusedVariables false

/-- What digits spell, behind 'acc'. -/
def dval (acc : Nat) : List UInt8 → Nat
  | [] => acc
  | c :: r => dval (acc * 10 + (c.toNat - 48)) r

def isDig (c : UInt8) : Prop := 48 ≤ c.toNat ∧ c.toNat ≤ 57

theorem dval_ge : ∀ (l : List UInt8) (acc : Nat), acc ≤ dval acc l
  | [], acc => Nat.le_refl _
  | c :: r, acc => Nat.le_trans (by omega) (dval_ge r (acc * 10 + (c.toNat - 48)))

theorem dval_snoc : ∀ (l : List UInt8) (acc : Nat) (c : UInt8), dval acc (l ++ [c]) = dval acc l * 10 + (c.toNat - 48)
  | [], acc, c => rfl
  | d :: r, acc, c => dval_snoc r (acc * 10 + (d.toNat - 48)) c

theorem parse_digits : ∀ (l : List UInt8) (acc : Nat), (∀ c ∈ l, isDig c) → dval acc l ≤ 1000000000000000 → Lib.parseUintM (2 ^ 64 - 1) acc l = .ok (dval acc l)
  | [], acc, _, _ => rfl
  | c :: r, acc, h, hle => by
    have hc := h c (by simp)
    have hg := dval_ge r (acc * 10 + (c.toNat - 48))
    have hle' : dval (acc * 10 + (c.toNat - 48)) r ≤ 1000000000000000 := hle
    simp only [Lib.parseUintM]
    rw [if_pos (show 48 ≤ c.toNat ∧ c.toNat ≤ 57 from hc), if_neg (by omega), if_neg (by omega)]
    exact parse_digits r _ (fun d hd => h d (by simp [hd])) hle'

theorem digit_byte (j : Nat) (h : j < 10) : isDig (UInt8.ofNat (48 + j)) ∧ (UInt8.ofNat (48 + j)).toNat - 48 = j := by
  unfold isDig; rw [digit_nat j h]; omega

theorem decDigits_spec (u : Nat) : (∀ c ∈ Lib.decDigits u, isDig c) ∧ dval 0 (Lib.decDigits u) = u ∧ Lib.decDigits u ≠ [] := by
  induction u using Nat.strongRecOn with
  | _ u ih =>
    by_cases h : u < 10
    · rw [Lib.decDigits, dif_pos h]
      have := digit_byte u h
      refine ⟨fun c hc => ?_, ?_, by simp⟩
      · rw [List.mem_singleton.1 hc]; exact this.1
      · show 0 * 10 + _ = _
        rw [this.2]; omega
    · rw [Lib.decDigits, dif_neg h]
      obtain ⟨h1, h2, _⟩ := ih (u / 10) (by omega)
      have := digit_byte (u % 10) (Nat.mod_lt _ (by decide))
      refine ⟨fun c hc => ?_, ?_, by simp⟩
      · rcases List.mem_append.1 hc with hc | hc
        · exact h1 c hc
        · rw [List.mem_singleton.1 hc]; exact this.1
      · rw [dval_snoc, h2, this.2]; omega

/-- A numeral reads as its number. -/
theorem parse_itoa (n : Int) (h0 : -1000000000000000 ≤ n) (h1 : n ≤ 1000000000000000) : Lib.parseIntB 64 (Lib.itoa n) = .ok n := by
  have hp : Lib.parseUintB 64 (Lib.decDigits n.natAbs) = .ok n.natAbs := by
    obtain ⟨d1, d2, d3⟩ := decDigits_spec n.natAbs
    unfold Lib.parseUintB
    rw [if_neg d3, parse_digits _ 0 d1 (by rw [d2]; omega), d2]
  have h63 : (2 : Nat) ^ (64 - 1) = 9223372036854775808 := by decide
  unfold Lib.itoa
  by_cases hn : n < 0
  · rw [if_pos hn]
    simp only [Lib.parseIntB]
    rw [if_pos (by decide), hp]
    simp only [h63]
    rw [if_neg (by simp), if_neg (by omega), if_pos (by decide)]
    congr 1; omega
  · rw [if_neg hn, show n.toNat = n.natAbs by omega]
    obtain ⟨d1, d2, d3⟩ := decDigits_spec n.natAbs
    cases hl : Lib.decDigits n.natAbs with
    | nil => exact absurd hl d3
    | cons c r =>
      have hc := d1 c (by rw [hl]; simp)
      unfold isDig at hc
      rw [hl] at hp
      simp only [Lib.parseIntB]
      rw [if_neg (by omega), hp]
      simp only [h63]
      rw [if_neg (by omega), if_neg (by omega), if_neg (by omega)]
      congr 1; omega

/-- The numeral's text. -/
def decS (n : Int) : ByteArray := ⟨(Lib.itoa n).toArray⟩

theorem decS_list (n : Int) : (decS n).data.toList = Lib.itoa n := rfl

theorem decS_inj {n m : Int} (h0 : -1000000000000000 ≤ n) (h1 : n ≤ 1000000000000000) (k0 : -1000000000000000 ≤ m) (k1 : m ≤ 1000000000000000) (h : decS n = decS m) : n = m := by
  have e : Lib.itoa n = Lib.itoa m := by rw [← decS_list, h, decS_list]
  have a := parse_itoa n h0 h1
  rw [e, parse_itoa m k0 k1] at a
  injection a with a
  exact a.symm

open Classical in
/-- The number that a text is the numeral of, if it is in range. -/
noncomputable def readV (s : ByteArray) : Option Int := if h : ∃ n : Int, -1000000000000000 ≤ n ∧ n ≤ 1000000000000000 ∧ decS n = s then some h.choose else none

theorem readV_some {s : ByteArray} {n : Int} (h0 : -1000000000000000 ≤ n) (h1 : n ≤ 1000000000000000) (h : decS n = s) : readV s = some n := by
  have hex : ∃ n : Int, -1000000000000000 ≤ n ∧ n ≤ 1000000000000000 ∧ decS n = s := ⟨n, h0, h1, h⟩
  unfold readV
  rw [dif_pos hex]
  obtain ⟨k0, k1, k⟩ := hex.choose_spec
  rw [decS_inj k0 k1 h0 h1 (k.trans h.symm)]

theorem readV_none {s : ByteArray} (h : ∀ n : Int, -1000000000000000 ≤ n → n ≤ 1000000000000000 → decS n ≠ s) : readV s = none := by
  unfold readV
  rw [dif_neg]
  rintro ⟨n, h0, h1, hn⟩
  exact h n h0 h1 hn

theorem readV_inv {s : ByteArray} {n : Int} (h : readV s = some n) : -1000000000000000 ≤ n ∧ n ≤ 1000000000000000 ∧ decS n = s := by
  unfold readV at h
  split at h
  · rename_i hex
    cases h
    exact hex.choose_spec
  · cases h

/-! ### The reference's reading -/

/-- What the digits among bytes spell. -/
def cval (acc : Nat) : List UInt8 → Nat
  | [] => acc
  | c :: r => cval (if 48 ≤ c.toNat ∧ c.toNat ≤ 57 then acc * 10 + (c.toNat - 48) else acc) r

theorem cval_digits : ∀ (l : List UInt8) (acc : Nat), (∀ c ∈ l, isDig c) → cval acc l = dval acc l
  | [], _, _ => rfl
  | c :: r, acc, h => by
    have hc := h c (by simp)
    have hc' : 48 ≤ c.toNat ∧ c.toNat ≤ 57 := hc
    have e : cval acc (c :: r) = cval (acc * 10 + (c.toNat - 48)) r := congrArg (fun a => cval a r) (if_pos hc')
    rw [e]
    exact cval_digits r (acc * 10 + (c.toNat - 48)) (fun d hd => h d (List.mem_cons_of_mem _ hd))

theorem cval_snoc : ∀ (l : List UInt8) (acc : Nat) (c : UInt8), cval acc (l ++ [c]) = (if 48 ≤ c.toNat ∧ c.toNat ≤ 57 then cval acc l * 10 + (c.toNat - 48) else cval acc l)
  | [], _, _ => rfl
  | d :: r, acc, c => cval_snoc r _ c

theorem cval_lt : ∀ (l : List UInt8) (acc k : Nat), acc < 10 ^ k → cval acc l < 10 ^ (k + l.length)
  | [], acc, k, h => h
  | c :: r, acc, k, h => by
    simp only [cval, List.length_cons]
    have h2 : (if 48 ≤ c.toNat ∧ c.toNat ≤ 57 then acc * 10 + (c.toNat - 48) else acc) < 10 ^ (k + 1) := by
      rw [Nat.pow_succ]; split <;> omega
    have := cval_lt r _ (k + 1) h2
    rw [show k + (r.length + 1) = k + 1 + r.length by omega]
    exact this

/-- The number that the reference tries. -/
def tryV (s : ByteArray) : Int := if s.data.toList.head? = some 45 then -(cval 0 s.data.toList : Int) else (cval 0 s.data.toList : Int)

theorem tryV_dec (n : Int) : tryV (decS n) = n := by
  obtain ⟨d1, d2, d3⟩ := decDigits_spec n.natAbs
  unfold tryV
  rw [decS_list]
  unfold Lib.itoa
  by_cases hn : n < 0
  · rw [if_pos hn, if_pos (show (45 :: Lib.decDigits n.natAbs).head? = some 45 from rfl)]
    have e : cval 0 (45 :: Lib.decDigits n.natAbs) = cval 0 (Lib.decDigits n.natAbs) := rfl
    rw [e, cval_digits _ 0 d1, d2]; omega
  · rw [if_neg hn, show n.toNat = n.natAbs by omega]
    cases hl : Lib.decDigits n.natAbs with
    | nil => exact absurd hl d3
    | cons c r =>
      have hc := d1 c (by rw [hl]; simp)
      unfold isDig at hc
      rw [if_neg (by
        simp only [List.head?_cons, Option.some.injEq]
        intro h; rw [h] at hc; exact absurd hc.1 (by decide)), ← hl, cval_digits _ 0 d1, d2]; omega

theorem nDigits_le {u : Nat} (h : u ≤ 1000000000000000) : Lib.nDigits u ≤ 16 := by
  rcases Nat.lt_or_ge 16 (Lib.nDigits u) with h' | h'
  · exfalso
    rw [← Lib.decDigits_length] at h'
    obtain ⟨d1, d2, d3⟩ := decDigits_spec u
    have key : ∀ k v : Nat, v < 10 ^ (k + 1) → Lib.nDigits v ≤ k + 1 := by
      intro k
      induction k with
      | zero => intro v hv; rw [Lib.nDigits_small (by omega)]; exact Nat.le_refl _
      | succ k ih =>
        intro v hv
        by_cases h10 : v < 10
        · rw [Lib.nDigits_small h10]; omega
        · rw [Lib.nDigits_big h10]
          have := ih (v / 10) (by rw [Nat.pow_succ] at hv; omega)
          omega
    have := key 15 u (Nat.lt_of_le_of_lt h (by decide))
    rw [Lib.decDigits_length] at h'
    omega
  · exact h'

theorem decS_size {n : Int} (h0 : -1000000000000000 ≤ n) (h1 : n ≤ 1000000000000000) : 1 ≤ (decS n).size ∧ (decS n).size ≤ 17 := by
  have e : (decS n).size = (Lib.itoa n).length := by simp [decS, ByteArray.size]
  have h2 := nDigits_le (u := n.natAbs) (by omega)
  have h3 := Lib.nDigits_pos n.natAbs
  rw [e]
  unfold Lib.itoa
  by_cases hn : n < 0
  · rw [if_pos hn, List.length_cons, Lib.decDigits_length]; omega
  · rw [if_neg hn, Lib.decDigits_length, show n.toNat = n.natAbs by omega]; omega

/-- How the reference ends. -/
theorem read_end (k : Nat) (hk : 50 ≤ k) (s : ByteArray) (x : Int) (h0 : -9223372036854775808 ≤ x) (h1 : x ≤ 9223372036854775807) :
    spec_l01Value.j2 (k + 1) s x = some (if -1000000000000000 ≤ x ∧ x ≤ 1000000000000000 ∧ decS x = s then (x, true) else (0, false)) := by
  simp only [spec_l01Value.j2, spec_l00In.f]
  have hd := dec_itoa k hk x h0 h1
  by_cases a : -1000000000000000 ≤ x
  · rw [if_pos (show x ≥ -1000000000000000 from a)]
    by_cases b : x ≤ 1000000000000000
    · simp only [Option.bind_some, decide_eq_true b, if_true]
      rw [hd]
      simp only [Option.bind_some]
      by_cases c : decS x = s
      · have hP : -1000000000000000 ≤ x ∧ x ≤ 1000000000000000 ∧ decS x = s := ⟨a, b, c⟩
        have hQ : (decS x).toList = s.toList := by rw [c]
        rw [if_pos hP]
        exact if_pos hQ
      · have hP : ¬ (-1000000000000000 ≤ x ∧ x ≤ 1000000000000000 ∧ decS x = s) := fun h => c h.2.2
        rw [if_neg hP]
        refine if_neg (c := (decS x).toList = s.toList) ?_
        intro h
        apply c
        have e : (decS x).data.toList = s.data.toList := by rw [← ByteArray.toList_eq, ← ByteArray.toList_eq]; exact h
        exact ByteArray.ext (Array.toList_inj.1 e)
    · rw [decide_eq_false b, if_neg (fun h => b h.2.1)]; rfl
  · rw [if_neg (show ¬ x ≥ -1000000000000000 from a), if_neg (fun h => a h.1)]; rfl

theorem bt_get (s : ByteArray) (i : Nat) (h : i < s.data.toList.length) : bt s (i : Int) = ((s.data.toList[i]).toNat : Int) := by
  have hi : i < s.size := by rw [data_length] at h; exact h
  have := bt_at s (i : Int) hi
  rw [← this]
  rfl

theorem read_loop (s : ByteArray) (hs : s.size ≤ 17) (hs1 : 1 ≤ s.size) (d : Nat) : ∀ (k i : Nat), i ≤ s.size → s.size - i = d → d + 52 ≤ k →
    spec_l01Value.l0 k s (cval 0 (s.data.toList.take i) : Int) (i : Int) = some (if -1000000000000000 ≤ tryV s ∧ tryV s ≤ 1000000000000000 ∧ decS (tryV s) = s then (tryV s, true) else (0, false)) := by
  have hsz : s.data.toList.length = s.size := data_length s
  have hp : (10 : Nat) ^ 17 = 100000000000000000 := by decide
  have hlt : ∀ i, i ≤ s.size → cval 0 (s.data.toList.take i) < 100000000000000000 := by
    intro i hi
    have h1 := cval_lt (s.data.toList.take i) 0 0 (by decide)
    have h2 : (10 : Nat) ^ (0 + (s.data.toList.take i).length) ≤ 10 ^ 17 := Nat.pow_le_pow_right (by decide) (by rw [List.length_take]; omega)
    omega
  induction d with
  | zero =>
    intro k i hi hd hk
    obtain ⟨k, rfl⟩ : ∃ j, k = j + 2 := ⟨k - 2, by omega⟩
    obtain rfl : i = s.size := by omega
    have h17 := hlt s.size (Nat.le_refl _)
    have htk : s.data.toList.take s.size = s.data.toList := List.take_of_length_le (by omega)
    rw [htk] at h17 ⊢
    simp only [spec_l01Value.l0]
    rw [if_neg (by omega), if_pos (by omega)]
    have hb := bt_get s 0 (by omega)
    have hh : s.data.toList.head? = some (s.data.toList[0]'(by omega)) := by
      rw [List.head?_eq_getElem?, List.getElem?_eq_getElem]
    by_cases h45 : bt s 0 = 45
    · have hc : s.data.toList[0]'(by omega) = 45 := by
        have : ((s.data.toList[0]'(by omega)).toNat : Int) = 45 := by rw [← hb]; exact h45
        apply UInt8.toNat_inj.1
        show _ = 45
        omega
      have ht : tryV s = -(cval 0 s.data.toList : Int) := by
        unfold tryV; rw [hh, hc]; exact if_pos rfl
      rw [if_pos h45, ht, wrap_id (x := -(cval 0 s.data.toList : Int)) (by omega) (by omega)]
      exact read_end k (by omega) s _ (by omega) (by omega)
    · have ht : tryV s = (cval 0 s.data.toList : Int) := by
        unfold tryV; rw [hh]
        refine if_neg ?_
        intro h
        apply h45
        have hb' : bt s 0 = ((s.data.toList[0]'(by omega)).toNat : Int) := hb
        rw [hb', Option.some.inj h]; rfl
      rw [if_neg h45, ht]
      exact read_end k (by omega) s _ (by omega) (by omega)
  | succ d ih =>
    intro k i hi hd hk
    obtain ⟨k, rfl⟩ : ∃ j, k = j + 1 := ⟨k - 1, by omega⟩
    have hil : i < s.data.toList.length := by omega
    have hb := bt_get s i hil
    have hi17 := hlt i hi
    have hi17' := hlt (i + 1) (by omega)
    have hsn : cval 0 (s.data.toList.take (i + 1)) = (if 48 ≤ (s.data.toList[i]).toNat ∧ (s.data.toList[i]).toNat ≤ 57 then cval 0 (s.data.toList.take i) * 10 + ((s.data.toList[i]).toNat - 48) else cval 0 (s.data.toList.take i)) := by
      rw [List.take_succ_eq_append_getElem hil, cval_snoc]
    have h256 := (s.data.toList[i]).toNat_lt
    have hrec := ih k (i + 1) (by omega) (by omega) (by omega)
    simp only [spec_l01Value.l0]
    rw [if_pos (by omega), if_pos (by omega), hb, wrap_id (x := (i : Int) + 1) (by omega) (by omega), show (i : Int) + 1 = ((i + 1 : Nat) : Int) by omega]
    rw [← hrec, hsn]
    rw [hsn] at hi17'
    generalize (s.data.toList[i]).toNat = c at *
    by_cases h1 : 48 ≤ c
    · by_cases h2 : c ≤ 57
      · have h12 : 48 ≤ c ∧ c ≤ 57 := ⟨h1, h2⟩
        rw [if_pos h12] at hi17'
        rw [if_pos h12, if_pos (show (c : Int) ≥ 48 by omega), if_pos (show (c : Int) ≤ 57 by omega), wrap_id (x := 10 * _) (by omega) (by omega), wrap_id (x := 10 * _ + _) (by omega) (by omega)]
        congr 1
        omega
      · have h12 : ¬ (48 ≤ c ∧ c ≤ 57) := fun h => h2 h.2
        rw [if_neg h12, if_pos (show (c : Int) ≥ 48 by omega), if_neg (show ¬ (c : Int) ≤ 57 by omega)]
    · have h12 : ¬ (48 ≤ c ∧ c ≤ 57) := fun h => h1 h.1
      rw [if_neg h12, if_neg (show ¬ (c : Int) ≥ 48 by omega)]

/-- The reference's reading of a decimal text. -/
theorem spec_read (s : ByteArray) : spec_l01Value.f 100 s = some ((readV s).getD 0, (readV s).isSome) := by
  by_cases hlen : 1 ≤ s.size ∧ s.size ≤ 17
  · have h := read_loop s hlen.2 hlen.1 s.size 98 0 (by omega) (by omega) (by omega)
    unfold spec_l01Value.f
    rw [if_neg (by omega), decide_eq_false (by omega)]
    have e1 : spec_l01Value.j0 100 s false = spec_l01Value.l0 99 s 0 0 := by
      show spec_l01Value.j0 (99 + 1) s false = _
      simp only [spec_l01Value.j0]
      rw [if_neg (by decide)]
    have h' := read_loop s hlen.2 hlen.1 s.size 99 0 (by omega) (by omega) (by omega)
    have e2 : spec_l01Value.l0 99 s ((cval 0 (s.data.toList.take 0) : Nat) : Int) ((0 : Nat) : Int) = spec_l01Value.l0 99 s 0 0 := rfl
    rw [e1, ← e2, h']
    by_cases hx : -1000000000000000 ≤ tryV s ∧ tryV s ≤ 1000000000000000 ∧ decS (tryV s) = s
    · rw [if_pos hx, readV_some hx.1 hx.2.1 hx.2.2]; rfl
    · rw [if_neg hx, readV_none]
      · rfl
      · intro n h0 h1 hn
        apply hx
        have e : tryV s = n := by rw [← hn]; exact tryV_dec n
        rw [e]; exact ⟨h0, h1, hn⟩
  · have hnone : readV s = none := readV_none (fun n h0 h1 hn => hlen (by rw [← hn]; exact decS_size h0 h1))
    have e0 : ∀ k, spec_l01Value.j0 (k + 1) s true = some (0, false) := fun k => by simp only [spec_l01Value.j0]; rw [if_pos trivial]
    rw [hnone]
    unfold spec_l01Value.f
    by_cases h1 : (s.size : Int) < 1
    · rw [if_pos h1]; exact e0 99
    · rw [if_neg h1, decide_eq_true (by omega)]; exact e0 99
end Go.Proofs.YtjfoimbeflobkabDoor
