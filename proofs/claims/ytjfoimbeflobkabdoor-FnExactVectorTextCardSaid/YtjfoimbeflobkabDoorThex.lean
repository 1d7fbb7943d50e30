/-
  Plain facts: hexadecimal digits.
-/
import Derived.Lib.Itoa
namespace Go.Proofs.YtjfoimbeflobkabDoor
open Go
set_option linter.unusedVariables false

def hexD (d : Nat) : UInt8 := UInt8.ofNat (if d < 10 then 48 + d else 87 + d)

/-- The k lowest digits. -/
def hexFix : Nat → Nat → List UInt8
  | 0, _ => []
  | k + 1, n => hexFix k (n / 16) ++ [hexD (n % 16)]

/-- The digits without leading noughts. -/
def hexRaw (n : Nat) : List UInt8 := if h : n < 16 then [hexD n] else hexRaw (n / 16) ++ [hexD (n % 16)]
termination_by n

theorem hexRaw_small {n : Nat} (h : n < 16) : hexRaw n = [hexD n] := by rw [hexRaw, dif_pos h]
theorem hexRaw_big {n : Nat} (h : ¬ n < 16) : hexRaw n = hexRaw (n / 16) ++ [hexD (n % 16)] := by rw [hexRaw, dif_neg h]

theorem hexFix_len : ∀ k n, (hexFix k n).length = k
  | 0, _ => rfl
  | k + 1, n => by simp [hexFix, hexFix_len k]

theorem hexFix_zero : ∀ k, hexFix k 0 = List.replicate k 48
  | 0 => rfl
  | k + 1 => by
    have h : hexD 0 = 48 := by decide
    simp only [hexFix, Nat.zero_div, Nat.zero_mod, hexFix_zero k, h]
    rw [← List.replicate_succ']

theorem hexRaw_pad : ∀ k n, n < 16 ^ (k + 1) → (hexRaw n).length ≤ k + 1 ∧ List.replicate (k + 1 - (hexRaw n).length) 48 ++ hexRaw n = hexFix (k + 1) n
  | 0, n, h => by
    have h' : n < 16 := by simpa using h
    rw [hexRaw_small h']
    refine ⟨Nat.le_refl _, ?_⟩
    simp [hexFix, Nat.mod_eq_of_lt h']
  | k + 1, n, h => by
    by_cases h' : n < 16
    · rw [hexRaw_small h']
      refine ⟨by simp, ?_⟩
      show List.replicate (k + 1) 48 ++ [hexD n] = hexFix (k + 1) (n / 16) ++ [hexD (n % 16)]
      rw [Nat.div_eq_of_lt h', Nat.mod_eq_of_lt h', hexFix_zero]
    · have hk : n / 16 < 16 ^ (k + 1) := by rw [Nat.pow_succ] at h; omega
      obtain ⟨h1, h2⟩ := hexRaw_pad k (n / 16) hk
      rw [hexRaw_big h']
      refine ⟨by simp; omega, ?_⟩
      rw [List.length_append, ← List.append_assoc]
      show List.replicate (k + 1 + 1 - ((hexRaw (n / 16)).length + 1)) 48 ++ hexRaw (n / 16) ++ [hexD (n % 16)] = hexFix (k + 1) (n / 16) ++ [hexD (n % 16)]
      rw [show k + 1 + 1 - ((hexRaw (n / 16)).length + 1) = k + 1 - (hexRaw (n / 16)).length by omega, h2]

theorem hexRaw_pos (n : Nat) : 1 ≤ (hexRaw n).length := by
  by_cases h : n < 16
  · rw [hexRaw_small h]; simp
  · rw [hexRaw_big h]; simp

/-- The eight digits of a word. -/
def hexS (n : Nat) : ByteArray := ⟨(hexFix 8 n).toArray⟩

theorem hexS_pad (n : Nat) (h : n < 4294967296) : (hexRaw n).length ≤ 8 ∧ List.replicate (8 - (hexRaw n).length) 48 ++ hexRaw n = hexFix 8 n := hexRaw_pad 7 n h

theorem hexS_size (n : Nat) : (hexS n).size = 8 := by
  show (hexFix 8 n).toArray.size = 8
  rw [List.size_toArray, hexFix_len]
end Go.Proofs.YtjfoimbeflobkabDoor
