/-
  A widening said by an equation (its bits and its draws chosen): for regions that draw their order. eqFloat32S.
-/
import Derived.Test.YtjfoimbeflobkabDoorE1
namespace Go.Proofs.YtjfoimbeflobkabDoor
open Go.RowKit Fl
set_option linter.unusedVariables false

theorem widen_ex (b : Nat) (w : World) : ∃ rn : Nat × Nat, (convert 34 52 (.float .f32 b)).run Tryd.prog w = .ok (.float .f64 rn.1) (w.drewN rn.2) ∧ FR .f64 rn.1 (wid (val .f32 b)) := by
  obtain ⟨r, n, h1, h2⟩ := run_widen (P := Tryd.prog) 34 52 b (by kernel_rfl) (by kernel_rfl) w
  exact ⟨(r, n), h1, h2⟩

noncomputable def widBits (b : Nat) (w : World) : Nat := (widen_ex b w).choose.1
noncomputable def widDraws (b : Nat) (w : World) : Nat := (widen_ex b w).choose.2
theorem widBits_fr (b : Nat) (w : World) : FR .f64 (widBits b w) (wid (val .f32 b)) := (widen_ex b w).choose_spec.2
theorem run_widen_eq (b : Nat) (w : World) : (convert 34 52 (.float .f32 b)).run Tryd.prog w = .ok (.float .f64 (widBits b w)) (w.drewN (widDraws b w)) := (widen_ex b w).choose_spec.1

attribute [local go_sem] run_widen_eq

theorem laws_eqFloat32S (A B : Option Addr) (cap cap' : Nat) (xs : List Nat) (n : Nat) (hn : xs.length = n) (hle : n ≤ 1048576) (w : World) (hA : FloatsAt w w.heap.size A xs) (hB : FloatsAt w w.heap.size B xs) :
    Calls Tryd.prog 16 #[.slice A n cap, .slice B n cap'] w fun e w' => e = .returned (.bool true) ∧ ∃ m, w' = w.drewN m := by
  have HA : Hid (FloatsAt w w.heap.size A xs) := hA
  have HB : Hid (FloatsAt w w.heap.size B xs) := hB
  have HN : Hid (xs.length = n) := hn
  clear hA hB hn
  go_enter Tryd.func16, Tryd.ntmps16
  go_wp2_with fail
  go_loopw [5] (fun k wr => ∃ (i : Nat), i ≤ n ∧ k = .int .i64 (i : Int) ∧ ∃ m, wr = w.drewN m) (fun k _ => n - (intOf k).toNat)
  case atStart => exact ⟨0, Nat.zero_le _, rfl, 0, rfl⟩
  case round =>
    obtain ⟨i, hi, rfl, m, rfl⟩ := hrel
    by_cases hlt : i < n
    · have b1 : (i : Int) < (n : Int) := by omega
      have b2 : (0 : Int) ≤ (i : Int) := by omega
      have b3 : (i : Int) < 1048576 := by omega
      obtain ⟨b, off, rfl, hbl, hcell, hxl⟩ := HA.out i (by rw [HN.out]; exact hlt)
      obtain ⟨b', off', rfl, hbl', hcell', _⟩ := HB.out i (by rw [HN.out]; exact hlt)
      generalize hx : xs.getD i 0 = x at *
      go_wp2_with fail
      go_region_held (fun w' => w'.cell? ⟨b, off + i, none⟩ = some (.float .f32 x) ∧ w'.cell? ⟨b', off' + i, none⟩ = some (.float .f32 x) ∧ ∃ m, w' = w.drewN m) ((refine ⟨by go_keep, by go_keep, ?_⟩; first | exact ⟨m + 1, rfl⟩ | exact ⟨m + 1 + _, rfl⟩ | exact ⟨m + 1 + _ + _, rfl⟩ | exact ⟨m + 1 + _ + _ + _, rfl⟩ | (trace_state; fail)))
        (first | (go_at_call 33; refine (sameFloat_FR _ _ _ (widBits_fr _ _) (widBits_fr _ _) _).mono ?_; rintro e w' ⟨rfl, n, rfl⟩))
      all_goals
        go_wp2_with fail
        go_roundw
        case rel => exact ⟨i + 1, hlt, by simp, _, rfl⟩
        case measure => simp [intOf]; omega
    · obtain rfl : i = n := by omega
      go_wp2_with fail
      go_ret
      exact ⟨rfl, m, rfl⟩
end Go.Proofs.YtjfoimbeflobkabDoor
