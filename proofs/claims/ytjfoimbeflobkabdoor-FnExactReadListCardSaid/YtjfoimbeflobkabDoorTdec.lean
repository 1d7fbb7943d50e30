/-
  Plain facts: the reference's decimal numeral is the library's.
-/
import Derived.Test.YtjfoimbeflobkabDoorPl01Valuex1
import Derived.Lib.ItoaNum
import Derived.Lib.LazyBuf
namespace Go.Proofs.YtjfoimbeflobkabDoor
open Go.RowKit Go.Proofs.YtjfoimbeflobkabDoor.Pl01Value

/-- The digits of m, none for 0. -/
def digs (m : Nat) : List Int := if m = 0 then [] else (Lib.decDigits m).map fun b => (b.toNat : Int)

theorem digit_nat (j : Nat) (h : j < 10) : (UInt8.ofNat (48 + j)).toNat = 48 + j := by
  rw [UInt8.toNat_ofNat']; omega

theorem digs_step (m : Nat) (h : m ≠ 0) : digs m = digs (m / 10) ++ [((48 + m % 10 : Nat) : Int)] := by
  unfold digs
  rw [if_neg h]
  by_cases h10 : m < 10
  · rw [if_pos (by omega), Lib.decDigits, dif_pos h10]
    simp [Nat.mod_eq_of_lt h10]; omega
  · rw [if_neg (by omega), Lib.decDigits, dif_neg h10, List.map_append]
    congr 1
    simp; omega

theorem wrap_id {x : Int} (h0 : -9223372036854775808 ≤ x) (h1 : x ≤ 9223372036854775807) : wrap64 x = x := by unfold wrap64; omega

/-- The sign's bytes. -/
def sgnB (n : Int) : List Int := if n < 0 then [45] else []

theorem dec_end (n : Int) (k : Nat) (xs : List Int) (hl : xs.length < 100) : spec_l01Dec.j1 (k + 1) n xs 0 false = some (strOfNums (sgnB n ++ xs)) := by
  simp only [spec_l01Dec.j1, sgnB]
  rw [if_neg (by decide)]
  by_cases hn : n < 0
  · rw [if_pos hn, if_pos hn]
    simp only [Option.bind_some]
    rw [if_pos (by simp; omega)]
  · rw [if_neg hn, if_neg hn]; rfl

theorem dec_round (n : Int) (k m : Nat) (s : Bool) (xs : List Int) (hm : m ≤ 9223372036854775808) (hs : s = false → m ≤ 9223372036854775807) (hl : xs.length < 100) :
    spec_l01Dec.j1 (k + 1) n xs (if s then -(m : Int) else (m : Int)) true = spec_l01Dec.l0 k n (((48 + m % 10 : Nat) : Int) :: xs) (if s then -((m / 10 : Nat) : Int) else ((m / 10 : Nat) : Int)) := by
  have hlt : m % 10 < 10 := Nat.mod_lt _ (by decide)
  simp only [spec_l01Dec.j1]
  rw [if_pos trivial]
  cases s
  · have e1 : Int.tmod (m : Int) 10 = ((m % 10 : Nat) : Int) := rfl
    have e2 : Int.tdiv (m : Int) 10 = ((m / 10 : Nat) : Int) := rfl
    simp only [Bool.false_eq_true, if_false, e1, e2, Option.bind_some]
    rw [if_neg (by omega), if_pos (by simp; omega), wrap_id (x := 48 + _) (by omega) (by omega), wrap_id (by omega) (by have := hs rfl; omega)]
    congr 1
    simp; omega
  · have e1 : Int.tmod (-(m : Int)) 10 = -((m % 10 : Nat) : Int) := by rw [Int.neg_tmod]; rfl
    have e2 : Int.tdiv (-(m : Int)) 10 = -((m / 10 : Nat) : Int) := by rw [Int.neg_tdiv]; rfl
    simp only [if_true, e1, e2, Option.bind_some, Int.neg_neg]
    by_cases h0 : m % 10 = 0
    · rw [if_neg (by omega), if_pos (by simp; omega), wrap_id (x := 48 + _) (by omega) (by omega), wrap_id (x := -((m / 10 : Nat) : Int)) (by omega) (by omega)]
      congr 1
      simp; omega
    · rw [if_pos (by omega), if_pos (by simp; omega), wrap_id (x := ((m % 10 : Nat) : Int)) (by omega) (by omega), wrap_id (x := 48 + _) (by omega) (by omega), wrap_id (x := -((m / 10 : Nat) : Int)) (by omega) (by omega)]
      congr 1
      simp; omega

theorem dec_l0 (n : Int) (s : Bool) (d : Nat) : ∀ (k m : Nat) (xs : List Int), xs ≠ [] → m < 10 ^ d → m ≤ 9223372036854775807 → 2 * d + 2 ≤ k → xs.length + d < 100 →
    spec_l01Dec.l0 k n xs (if s then -(m : Int) else (m : Int)) = some (strOfNums (sgnB n ++ digs m ++ xs)) := by
  have zero : ∀ (k : Nat) (xs : List Int), xs ≠ [] → 2 ≤ k → xs.length < 100 → spec_l01Dec.l0 k n xs (if s then -((0 : Nat) : Int) else ((0 : Nat) : Int)) = some (strOfNums (sgnB n ++ digs 0 ++ xs)) := by
    intro k xs hx hk hl
    obtain ⟨k, rfl⟩ : ∃ j, k = j + 2 := ⟨k - 2, by omega⟩
    have e : (if s then -((0 : Nat) : Int) else ((0 : Nat) : Int)) = 0 := by cases s <;> rfl
    have hne : ¬ (xs.length : Int) = 0 := by
      have := List.length_pos_iff.2 hx; omega
    rw [e]
    simp only [spec_l01Dec.l0]
    rw [if_neg hne, show ((0 : Int) != 0) = false from rfl, dec_end n k xs hl]
    simp [digs]
  induction d with
  | zero =>
    intro k m xs hx hm _ hk hl
    obtain rfl : m = 0 := by simpa using hm
    exact zero k xs hx (by omega) (by omega)
  | succ d ih =>
    intro k m xs hx hm hm63 hk hl
    by_cases h0 : m = 0
    · subst h0; exact zero k xs hx (by omega) (by omega)
    · obtain ⟨k, rfl⟩ : ∃ j, k = j + 2 := ⟨k - 2, by omega⟩
      have hne : ¬ (xs.length : Int) = 0 := by
        have := List.length_pos_iff.2 hx; omega
      have hb : ((if s then -(m : Int) else (m : Int)) != 0) = true := by cases s <;> simp <;> omega
      simp only [spec_l01Dec.l0]
      rw [if_neg hne, hb, dec_round n k m s xs (by omega) (fun _ => hm63) (by omega), ih k (m / 10) _ (by simp) (by rw [Nat.pow_succ] at hm; omega) (by omega) (by omega) (by simp; omega), digs_step m h0]
      simp

theorem itoa_nums (n : Int) : (Lib.itoa n).map (fun b => (b.toNat : Int)) = sgnB n ++ (Lib.decDigits n.natAbs).map fun b => (b.toNat : Int) := by
  unfold Lib.itoa sgnB
  by_cases hn : n < 0
  · rw [if_pos hn, if_pos hn]; rfl
  · rw [if_neg hn, if_neg hn, show n.toNat = n.natAbs by omega]; rfl

/-- The reference's numeral is the library's. -/
theorem dec_itoa (k : Nat) (hk : 50 ≤ k) (n : Int) (h0 : -9223372036854775808 ≤ n) (h1 : n ≤ 9223372036854775807) : spec_l01Dec.f k n = some (⟨(Lib.itoa n).toArray⟩ : ByteArray) := by
  obtain ⟨s, m, hn, hs⟩ : ∃ (s : Bool) (m : Nat), n = (if s then -(m : Int) else (m : Int)) ∧ (s = decide (n < 0)) := ⟨decide (n < 0), n.natAbs, by by_cases h : n < 0 <;> simp [h] <;> omega, rfl⟩
  have hab : n.natAbs = m := by rw [hn]; cases s <;> simp
  have hmle : m ≤ 9223372036854775808 := by omega
  have hms : s = false → m ≤ 9223372036854775807 := by
    intro h
    have : ¬ n < 0 := by rw [h] at hs; exact of_decide_eq_false hs.symm
    omega
  have hp : (10 : Nat) ^ 19 = 10000000000000000000 := by decide
  unfold spec_l01Dec.f
  obtain ⟨k, rfl⟩ : ∃ j, k = j + 2 := ⟨k - 2, by omega⟩
  have e0 : ∀ k, spec_l01Dec.l0 (k + 1) n [] n = spec_l01Dec.j1 k n [] n true := fun k => by
    simp only [spec_l01Dec.l0]
    rw [if_pos (by rfl)]
  have e1 : spec_l01Dec.l0 (k + 2) n [] n = spec_l01Dec.j1 (k + 1) n [] n true := e0 (k + 1)
  have e2 : spec_l01Dec.j1 (k + 1) n [] n true = spec_l01Dec.j1 (k + 1) n [] (if s then -(m : Int) else (m : Int)) true := by rw [← hn]
  rw [e1, e2, dec_round n k m s [] hmle hms (by decide), dec_l0 n s 19 k (m / 10) _ (by simp) (by omega) (by omega) (by omega) (by simp)]
  congr 1
  rw [← Lib.Lz.strOfNums_map, itoa_nums, hab, List.append_assoc]
  congr 2
  by_cases hm0 : m = 0
  · subst hm0; rw [Lib.decDigits, dif_pos (by decide)]; rfl
  · have := digs_step m hm0
    unfold digs at this
    rw [if_neg hm0] at this
    unfold digs
    rw [this]
end Go.Proofs.YtjfoimbeflobkabDoor
