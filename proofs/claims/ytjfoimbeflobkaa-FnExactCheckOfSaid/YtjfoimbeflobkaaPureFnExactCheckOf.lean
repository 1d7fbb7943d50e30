/-
  Proved: the plain statement behind laws.FnExactCheckOf: the reference and the program answer alike at every number and string. No condition.
-/
import Derived.Test.YtjfoimbeflobkaaPFnExactCheckOfx1
namespace Go.Proofs.Ytjfoimbeflobkaa.Pure
open Go.RowKit Go.Proofs.Ytjfoimbeflobkaa.PFnExactCheckOf Go.Proofs.YtjfoimbeflobkaaW.PrintWords Go.Proofs.YtjfoimbeflobkaaW.PrintLast

theorem wrap_inside {x : Int} (h0 : -9223372036854775808 ≤ x) (h1 : x ≤ 9223372036854775807) : wrap64 x = x := by unfold wrap64; omega

theorem both_check (s : ByteArray) (hn : s.size ≤ 1048576) (d : Nat) : ∀ (k : Nat) (n i : Int), 0 ≤ i → i ≤ s.size → (s.size : Int) - i = d → d < k →
    ∃ r, spec_l01Check.l0 k n s i = some r ∧ impl_CheckOf.l0 k n s (s.size : Int) i = some (r, true) := by
  induction d with
  | zero =>
    intro k n i h0 h1 hd hk
    obtain ⟨k, rfl⟩ : ∃ m, k = m + 1 := ⟨k - 1, by omega⟩
    simp only [spec_l01Check.l0, impl_CheckOf.l0]
    rw [if_neg (by omega), if_neg (by omega)]
    exact ⟨_, rfl, rfl⟩
  | succ d ih =>
    intro k n i h0 h1 hd hk
    obtain ⟨k, rfl⟩ : ∃ m, k = m + 1 := ⟨k - 1, by omega⟩
    have hlt : i < (s.size : Int) := by omega
    simp only [spec_l01Check.l0, impl_CheckOf.l0]
    rw [if_pos hlt, if_pos h0, if_pos hlt, if_pos h0, if_pos hlt, wrap_inside (x := i + 1) (by omega) (by omega)]
    exact ih k _ (i + 1) (by omega) (by omega) (by omega) (by omega)

theorem FnExactCheckOf : laws_FnExactCheckOf.Pure := by
  intro n s _ _
  by_cases h : (s.size : Int) > 1048576
  · exact ⟨0, by unfold laws_FnExactCheckOf.f; rw [if_pos h]⟩
  · obtain ⟨r, hr, hr'⟩ := both_check s (by omega) s.size (s.size + 1) n 0 (by omega) (by omega) (by omega) (by omega)
    refine ⟨s.size + 1, ?_⟩
    unfold laws_FnExactCheckOf.f spec_CheckOf.f impl_CheckOf.f spec_l01Check.f spec_l00In.f impl_within.f
    rw [if_neg h, hr, hr']
    by_cases h0 : n ≥ 0
    · by_cases h1 : n ≤ 65002
      · simp [h0, h1]
      · simp [h0, h1]
    · simp [h0]

end Go.Proofs.Ytjfoimbeflobkaa.Pure
