/-
  Contracts and walks: RootNumber on both sides.
-/
import Derived.Test.YtilaempppmhohaaA4
import Derived.Test.YtilaempppmhohaaOps
namespace Go.Proofs.Ytilaempppmhohaa
open Fl Ieee Go.RowKit
set_option linter.unusedVariables false

theorem math_Sqrt (x : Nat) (w : World) : Calls Try.prog 23 #[.float .f64 x] w fun e w' => ∃ r, e = .returned (.float .f64 r) ∧ FR .f64 r (sqrtV (val .f64 x)) ∧ ∃ n, w' = w.drewN n := by
  obtain ⟨r, n, hrun, hf⟩ := run_sqrt (P := Try.prog) x w
  go_enter Try.func23, Try.ntmps23
  go_wp2_with fail
  go_ret
  exact ⟨r, rfl, hf, n, rfl⟩

theorem narOk_root (x : Nat) : NarOk (sqrtV (wid (val .f32 x))) := by
  intro b hb
  rcases val_cases .f32 x with h | h
  · rw [h] at hb
    have hb' : double.sqrt (W x) = some b := hb
    have hnn := (nn_iff .f32 x).1 h
    rcases Nat.lt_or_ge (rung single x) single.infRung with h' | h'
    · have hW := W_fin h'
      have hle : mg double (rung double (W x)) ≤ mg single (single.infRung - 1) * 2 ^ 925 := by
        rw [hW.1]; exact Nat.mul_le_mul_right _ ((mg_le_iff single).2 (by omega))
      have hs := root_le 1074 (by decide) hW.2.2 hb' 4904418691351740416 (by
        refine Nat.le_trans (Nat.mul_le_mul_right _ (Nat.mul_le_mul_left _ hle)) ?_
        decide +kernel)
      have hok := NarOk.of_le (b := b) (Nat.le_trans ((mg_le_iff double).2 hs) (by decide +kernel))
      exact hok b rfl
    · have e : rung single x = single.infRung := by
        have : rung single x ≤ single.infRung := hnn
        omega
      left
      have hr := read_inf double (by decide) (W_inf e).1
      unfold Format.sqrt at hb'
      rw [hr] at hb'
      simp only [Datum.root] at hb'
      split at hb'
      · cases hb'
      · cases hb'
        exact rung_word double _ (Nat.le_refl _)
  · rw [h] at hb; cases hb

theorem spec_l01Narrow (x : Nat) (hok : NarOk (val .f64 x)) (w : World) : Calls Try.prog 24 #[.float .f64 x] w fun e w' => ∃ r, e = .returned (.float .f32 r) ∧ FR .f32 r (nar (val .f64 x)) ∧ ∃ n, w' = w.drewN n := by
  go_enter Try.func24, Try.ntmps24
  go_wp2_with (refine wpList_narrow rfl _ _ _ rfl _ rfl (by kernel_rfl) (by kernel_rfl) hok ?_; intro r3 n3 hr3)
  go_ret
  exact ⟨r3, rfl, hr3, _, rfl⟩

end Go.Proofs.Ytilaempppmhohaa
