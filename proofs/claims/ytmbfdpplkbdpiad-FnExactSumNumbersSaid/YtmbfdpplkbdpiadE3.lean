/-
  Contracts: SumNumbers, both sides.
-/
import Derived.Test.YtmbfdpplkbdpiadE2
namespace Go.Proofs.Ytmbfdpplkbdpiad
open Go.RowKit Fl
set_option linter.unusedVariables false

theorem v32z : val .f32 0 = some 0 := (nn_iff .f32 0).2 (by decide)

def sumV (xs : List Nat) : Nat → Option Nat
  | 0 => some 0
  | i + 1 => bin .add .f32 (sumV xs i) (val .f32 (xs.getD i 0))

theorem spec_l01Sum (A : Option Addr) (cap : Nat) (xs : List Nat) (n : Nat) (hn : xs.length = n) (hle : n ≤ 1048576) (w : World) (hA : FloatsAt w w.heap.size A xs) :
    Calls Try.prog 35 #[.slice A n cap] w fun e w' => ∃ r, e = .returned (.float .f32 r) ∧ FR .f32 r (sumV xs n) ∧ ∃ n, w' = w.drewN n := by
  have HA : Hid (FloatsAt w w.heap.size A xs) := hA
  have HN : Hid (xs.length = n) := hn
  clear hA hn
  go_enter Try.func35, Try.ntmps35
  go_wp2_with fail
  go_loopw [3, 4] (fun s k wr => ∃ (i sb : Nat), i ≤ n ∧ s = .float .f32 sb ∧ k = .int .i64 (i : Int) ∧ FR .f32 sb (sumV xs i) ∧ ∃ m, wr = w.drewN m) (fun _ k _ => n - (intOf k).toNat)
  case atStart => exact ⟨0, 0, Nat.zero_le _, rfl, rfl, ⟨by decide, v32z⟩, 0, rfl⟩
  case round =>
    obtain ⟨i, sb, hi, rfl, rfl, hs, m, rfl⟩ := hrel
    by_cases hlt : i < n
    · have b1 : (i : Int) < (n : Int) := by omega
      have b2 : (0 : Int) ≤ (i : Int) := by omega
      have b3 : (i : Int) < 1048576 := by omega
      obtain ⟨b, off, rfl, hbl, hcell, hxl⟩ := HA.out i (by rw [HN.out]; exact hlt)
      go_wp2_with (first | (refine wpList_fbin (o := ⟨some 16, _, _, _, _, _⟩) rfl _ _ _ _ _ rfl (by decide) _ _ _ rfl rfl ?_; intro r nr hr; rw [hs.val] at hr) | fail)
      go_roundw
      case rel => exact ⟨i + 1, r, hlt, rfl, by simp, hr, _, rfl⟩
      case measure => simp [intOf]; omega
    · obtain rfl : i = n := by omega
      go_wp2_with fail
      go_ret
      exact ⟨sb, rfl, hs, m, rfl⟩

theorem spec_l01Few (A : Option Addr) (cap n : Nat) (hle : n ≤ 1048576) (w : World) : Calls Try.prog 33 #[.slice A n cap] w fun e w' => e = .returned (.bool (decide (n ≤ 256))) ∧ w' = w := by
  by_cases h : n ≤ 256
  · rw [decide_eq_true h]
    have b1 : (n : Int) ≤ 256 := by omega
    go_enter Try.func33, Try.ntmps33
    go_wp2_with fail
    go_ret
    exact ⟨rfl, rfl⟩
  · rw [decide_eq_false h]
    have b1 : ¬ (n : Int) ≤ 256 := by omega
    go_enter Try.func33, Try.ntmps33
    go_wp2_with fail
    go_ret
    exact ⟨rfl, rfl⟩

theorem impl_SumNumbers_many (A : Option Addr) (cap n : Nat) (h : ¬ n ≤ 256) (w : World) :
    Calls Try.prog 21 #[.slice A n cap] w fun e w' => e = .returned (.tuple #[.float .f32 0, .bool false]) ∧ ∃ m, w' = w.drewN m := by
  have b1 : (256 : Int) < (n : Int) := by omega
  go_enter Try.func21, Try.ntmps21
  go_wp2_with fail
  go_ret2
  exact ⟨rfl, 0, rfl⟩

theorem impl_SumNumbers_few (A : Option Addr) (cap : Nat) (xs : List Nat) (n : Nat) (hn : xs.length = n) (hle : n ≤ 256) (w : World) (hA : FloatsAt w w.heap.size A xs) :
    Calls Try.prog 21 #[.slice A n cap] w fun e w' => ∃ r, e = .returned (.tuple #[.float .f32 r, .bool true]) ∧ FR .f32 r (sumV xs n) ∧ ∃ m, w' = w.drewN m := by
  have HA : Hid (FloatsAt w w.heap.size A xs) := hA
  have HN : Hid (xs.length = n) := hn
  have b0 : ¬ (256 : Int) < (n : Int) := by omega
  clear hA hn
  go_enter Try.func21, Try.ntmps21
  go_wp2_with fail
  go_loopw [4, 12] (fun s k wr => ∃ (i sb : Nat), i ≤ n ∧ s = .float .f32 sb ∧ k = .int .i64 (i : Int) ∧ FR .f32 sb (sumV xs i) ∧ ∃ m, wr = w.drewN m) (fun _ k _ => n - (intOf k).toNat)
  case atStart => exact ⟨0, 0, Nat.zero_le _, rfl, rfl, ⟨by decide, v32z⟩, 0, rfl⟩
  case round =>
    obtain ⟨i, sb, hi, rfl, rfl, hs, m, rfl⟩ := hrel
    by_cases hlt : i < n
    · have b1 : (i : Int) < (n : Int) := by omega
      have b2 : (0 : Int) ≤ (i : Int) := by omega
      have b3 : (i : Int) < 1048576 := by omega
      obtain ⟨b, off, rfl, hbl, hcell, hxl⟩ := HA.out i (by rw [HN.out]; exact hlt)
      go_wp2_with (first | (refine wpList_fbin (o := ⟨some 18, _, _, _, _, _⟩) rfl _ _ _ _ _ rfl (by decide) _ _ _ rfl rfl ?_; intro r nr hr; rw [hs.val] at hr) | fail)
      go_roundw
      case rel => exact ⟨i + 1, r, hlt, rfl, by simp, hr, _, rfl⟩
      case measure => simp [intOf]; omega
    · obtain rfl : i = n := by omega
      go_wp2_with fail
      go_ret2
      exact ⟨sb, rfl, hs, m, rfl⟩

theorem spec_SumNumbers_many (A : Option Addr) (cap n : Nat) (h : ¬ n ≤ 256) (hle : n ≤ 1048576) (w : World) :
    Calls Try.prog 20 #[.slice A n cap] w fun e w' => e = .returned (.tuple #[.float .f32 0, .bool false]) ∧ ∃ m, w' = w.drewN m := by
  have hd : decide (n ≤ 256) = false := decide_eq_false h
  go_enter Try.func20, Try.ntmps20
  go_wp2_with (first | (go_at_call 33; refine (spec_l01Few _ _ _ hle _).mono ?_; rw [hd]; rintro e w' ⟨rfl, rfl⟩) | fail)
  go_ret2
  exact ⟨rfl, 0, rfl⟩

theorem spec_SumNumbers_few (A : Option Addr) (cap : Nat) (xs : List Nat) (n : Nat) (hn : xs.length = n) (hle : n ≤ 256) (w : World) (hA : FloatsAt w w.heap.size A xs) :
    Calls Try.prog 20 #[.slice A n cap] w fun e w' => ∃ r, e = .returned (.tuple #[.float .f32 r, .bool true]) ∧ FR .f32 r (sumV xs n) ∧ ∃ m, w' = w.drewN m := by
  have hd : decide (n ≤ 256) = true := decide_eq_true hle
  have HA : Hid (FloatsAt w w.heap.size A xs) := hA
  have HN : Hid (xs.length = n) := hn
  clear hA hn
  go_enter Try.func20, Try.ntmps20
  go_wp2_with (first | (go_at_call 33; refine (spec_l01Few _ _ _ (by omega) _).mono ?_; rw [hd]; rintro e w' ⟨rfl, rfl⟩) | (go_at_call 35; refine (spec_l01Sum _ _ xs _ HN.out (by omega) _ HA.out).mono ?_; rintro e w' ⟨r, rfl, hr, m, rfl⟩) | fail)
  go_ret2
  exact ⟨r, rfl, hr, m, rfl⟩
end Go.Proofs.Ytmbfdpplkbdpiad
