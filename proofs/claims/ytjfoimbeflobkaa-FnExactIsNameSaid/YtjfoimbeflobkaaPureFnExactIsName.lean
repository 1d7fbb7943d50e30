/-
  Proved: the plain statement behind laws.FnExactIsName: the reference and the program answer alike at every string. No condition.
-/
import Derived.Test.YtjfoimbeflobkaaPFnExactIsNamex1
namespace Go.Proofs.Ytjfoimbeflobkaa.Pure
open Go.RowKit Go.Proofs.Ytjfoimbeflobkaa.PFnExactIsName Go.Proofs.YtjfoimbeflobkaaW.PrintWords Go.Proofs.YtjfoimbeflobkaaW.PrintLast

theorem wrap_in {x : Int} (h0 : -9223372036854775808 ≤ x) (h1 : x ≤ 9223372036854775807) : wrap64 x = x := by unfold wrap64; omega

theorem both (s : ByteArray) (hn : s.size ≤ 1048576) (d : Nat) : ∀ (k : Nat) (i : Int), 0 ≤ i → i ≤ s.size → (s.size : Int) - i = d → d < k →
    ∃ r, spec_IsName.l0 k s i = some r ∧ impl_IsName.l0 k s (s.size : Int) i = some r := by
  induction d with
  | zero =>
    intro k i h0 h1 hd hk
    obtain ⟨k, rfl⟩ : ∃ m, k = m + 1 := ⟨k - 1, by omega⟩
    simp only [spec_IsName.l0, impl_IsName.l0]
    have hge : ¬ i < (s.size : Int) := by omega
    rw [if_neg hge, if_neg hge]
    by_cases h : (s.size : Int) ≥ 1
    · rw [if_pos h]; exact ⟨_, rfl, rfl⟩
    · rw [if_neg h]; exact ⟨_, rfl, rfl⟩
  | succ d ih =>
    intro k i h0 h1 hd hk
    obtain ⟨k, rfl⟩ : ∃ m, k = m + 1 := ⟨k - 1, by omega⟩
    have hlt : i < (s.size : Int) := by omega
    obtain ⟨r, hr, hr'⟩ := ih k (i + 1) (by omega) (by omega) (by omega) (by omega)
    simp only [spec_IsName.l0, impl_IsName.l0]
    rw [if_pos hlt, if_pos h0, if_pos hlt, if_pos h0, if_pos hlt, wrap_in (x := i + 1) (by omega) (by omega), hr, hr']
    by_cases ha : bt s i < 97
    · rw [if_pos ha]; exact ⟨_, rfl, rfl⟩
    · rw [if_neg ha]
      by_cases hb : bt s i > 122
      · rw [if_pos hb]; exact ⟨_, rfl, rfl⟩
      · rw [if_neg hb]; exact ⟨_, rfl, rfl⟩

theorem FnExactIsName : laws_FnExactIsName.Pure := by
  intro s _
  by_cases h : (s.size : Int) > 1048576
  · exact ⟨0, by unfold laws_FnExactIsName.f; rw [if_pos h]⟩
  · obtain ⟨r, hr, hr'⟩ := both s (by omega) s.size (s.size + 1) 0 (by omega) (by omega) (by omega) (by omega)
    refine ⟨s.size + 1, ?_⟩
    unfold laws_FnExactIsName.f spec_IsName.f impl_IsName.f
    rw [if_neg h, hr, hr']
    simp

end Go.Proofs.Ytjfoimbeflobkaa.Pure
