/-
  Plain facts on the bits of floats that the program's masks come to, and on values by their bits.
-/
import Derived.Test.YtjfoimbeflobkabDoorNum
import Derived.WalkKit
import Derived.Laws.BitsAll
namespace Go.Proofs.YtjfoimbeflobkabDoor
open Fl Ieee
set_option linter.unusedVariables false

theorem i64_and_nat (a b : Nat) (ha : a < 9223372036854775808) (hb : b < 9223372036854775808) : bits .and .i64 (a : Int) (b : Int) = ((a &&& b : Nat) : Int) := by
  have hx : a &&& b < 2 ^ 63 := Nat.and_lt_two_pow _ (by omega)
  show IntKind.i64.wrap ((BitVec.ofInt 64 (a : Int) &&& BitVec.ofInt 64 (b : Int)).toNat : Int) = _
  rw [BitVec.toNat_and, ofInt_u64 a (by omega), ofInt_u64 b (by omega), IntKind.wrap_i64]
  omega

/-- Abs's mask. -/
theorem abs_bits (x : Nat) (h : x < 18446744073709551616) : (bits .andNot .u64 (x : Int) 9223372036854775808).toNat = x % 9223372036854775808 := by
  have := u64_andNot_nat x 9223372036854775808 h (by decide)
  rw [show ((9223372036854775808 : Nat) : Int) = 9223372036854775808 from rfl] at this
  rw [this]
  show x &&& (2 ^ 63 - 1) = _
  rw [Nat.and_two_pow_sub_one_eq_mod]

/-- The exponent's mask. -/
theorem exp_bits (x : Nat) (h : x < 4294967296) : bits .and .i64 (x : Int) 2139095040 = ((x % 2147483648 / 8388608 * 8388608 : Nat) : Int) := by
  have := i64_and_nat x 2139095040 (by omega) (by decide)
  rw [show ((2139095040 : Nat) : Int) = 2139095040 from rfl] at this
  rw [this]
  have e := nat_midmask 31 23 x (by decide)
  rw [show (2 : Nat) ^ 31 - 2 ^ 23 = 2139095040 from rfl] at e
  rw [e]

/-- The sign's mask. -/
theorem sign_bits (x : Nat) (h : x < 4294967296) : bits .and .i64 (x : Int) 2147483648 = ((x / 2147483648 * 2147483648 : Nat) : Int) := by
  have := i64_and_nat x 2147483648 (by omega) (by decide)
  rw [show ((2147483648 : Nat) : Int) = 2147483648 from rfl] at this
  rw [this]
  have e := nat_bit 31 x
  rw [show (2 : Nat) ^ 31 = 2147483648 from rfl] at e
  rw [e]
  have : x / 2147483648 % 2 = x / 2147483648 := by omega
  rw [this]

theorem sign_bits64 (x : Nat) (h : x < 18446744073709551616) : bits .and .u64 (x : Int) 9223372036854775808 = ((x / 9223372036854775808 * 9223372036854775808 : Nat) : Int) := by
  have := u64_and_nat x 9223372036854775808 (by omega) (by decide)
  rw [show ((9223372036854775808 : Nat) : Int) = 9223372036854775808 from rfl] at this
  rw [this]
  have e := nat_bit 63 x
  rw [show (2 : Nat) ^ 63 = 9223372036854775808 from rfl] at e
  rw [e]
  have : x / 9223372036854775808 % 2 = x / 9223372036854775808 := by omega
  rw [this]

/-- A number's bits, as the document has them: one pattern for what is no number. -/
def bitsV : Option Nat → Int
  | none => 2143289344
  | some b => b

theorem f32_split {b : Nat} (h : b < 4294967296) : rung single b = b % 2147483648 ∧ sgn single b = decide (2147483648 ≤ b) := by
  refine ⟨rfl, ?_⟩
  unfold sgn
  rw [show single.signWeight = 2147483648 from rfl]
  by_cases hb : 2147483648 ≤ b
  · rw [decide_eq_true hb, show b / 2147483648 = 1 by omega]; rfl
  · rw [decide_eq_false hb, show b / 2147483648 = 0 by omega]; rfl

theorem f64_split {b : Nat} (h : b < 18446744073709551616) : rung double b = b % 9223372036854775808 ∧ sgn double b = decide (9223372036854775808 ≤ b) := by
  refine ⟨rfl, ?_⟩
  unfold sgn
  rw [show double.signWeight = 9223372036854775808 from rfl]
  by_cases hb : 9223372036854775808 ≤ b
  · rw [decide_eq_true hb, show b / 9223372036854775808 = 1 by omega]; rfl
  · rw [decide_eq_false hb, show b / 9223372036854775808 = 0 by omega]; rfl

/-- Bits below 2^32 by sign and rung. -/
theorem f32_ext {a b : Nat} (ha : a < 4294967296) (hb : b < 4294967296) (hr : rung single a = rung single b) (hs : sgn single a = sgn single b) : a = b := by
  rw [(f32_split ha).1, (f32_split hb).1] at hr
  rw [(f32_split ha).2, (f32_split hb).2, decide_eq_decide] at hs
  omega

theorem val_lt {k : FloatKind} {b x : Nat} (h : val k b = some x) (hb : b < 2 ^ k.format.width) : x < 2 ^ k.format.width := by
  rw [val_some h]; exact hb

/-- Not a number, or a number by its rung. -/
theorem val32 (b : Nat) : val .f32 b = if b % 2147483648 ≤ 2139095040 then some b else none := by
  by_cases h : b % 2147483648 ≤ 2139095040
  · rw [if_pos h]; exact (nn_iff .f32 b).2 h
  · rw [if_neg h]
    rcases val_cases .f32 b with h' | h'
    · exact absurd ((nn_iff .f32 b).1 h') h
    · exact h'

theorem val64 (b : Nat) : val .f64 b = if b % 9223372036854775808 ≤ 9218868437227405312 then some b else none := by
  by_cases h : b % 9223372036854775808 ≤ 9218868437227405312
  · rw [if_pos h]; exact (nn_iff .f64 b).2 h
  · rw [if_neg h]
    rcases val_cases .f64 b with h' | h'
    · exact absurd ((nn_iff .f64 b).1 h') h
    · exact h'
end Go.Proofs.YtjfoimbeflobkabDoor
