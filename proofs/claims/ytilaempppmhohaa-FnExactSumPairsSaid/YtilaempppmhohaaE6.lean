/-
  Float operations said by equations (their bits and draws chosen): for regions that draw their order. DotNumbers, both sides.
-/
import Derived.Test.YtilaempppmhohaaE3
namespace Go.Proofs.Ytilaempppmhohaa
open Go.RowKit Fl
set_option linter.unusedVariables false

theorem arith_ex (op : BinOp) (hop : op = .add ∨ op = .sub ∨ op = .mul ∨ op = .quo) (t : TypeId) (k : FloatKind) (x y : Nat) (w : World) :
    ∃ rn : Nat × Nat, (binOp op t (.float k x) (.float k y)).run Try.prog w = .ok (.float k rn.1) (w.drewN rn.2) ∧ FR k rn.1 (bin op k (Fl.val k x) (Fl.val k y)) := by
  obtain ⟨r, n, h1, h2⟩ := run_arith (P := Try.prog) op hop t k x y w
  exact ⟨(r, n), h1, h2⟩

noncomputable def addBits (t : TypeId) (k : FloatKind) (x y : Nat) (w : World) : Nat := (arith_ex .add (by decide) t k x y w).choose.1
noncomputable def addDraws (t : TypeId) (k : FloatKind) (x y : Nat) (w : World) : Nat := (arith_ex .add (by decide) t k x y w).choose.2
theorem addBits_fr (t : TypeId) (k : FloatKind) (x y : Nat) (w : World) : FR k (addBits t k x y w) (bin .add k (Fl.val k x) (Fl.val k y)) := (arith_ex .add (by decide) t k x y w).choose_spec.2
theorem run_add_eq (t : TypeId) (k : FloatKind) (x y : Nat) (w : World) : (binOp .add t (.float k x) (.float k y)).run Try.prog w = .ok (.float k (addBits t k x y w)) (w.drewN (addDraws t k x y w)) := (arith_ex .add (by decide) t k x y w).choose_spec.1

noncomputable def mulBits (t : TypeId) (k : FloatKind) (x y : Nat) (w : World) : Nat := (arith_ex .mul (by decide) t k x y w).choose.1
noncomputable def mulDraws (t : TypeId) (k : FloatKind) (x y : Nat) (w : World) : Nat := (arith_ex .mul (by decide) t k x y w).choose.2
theorem mulBits_fr (t : TypeId) (k : FloatKind) (x y : Nat) (w : World) : FR k (mulBits t k x y w) (bin .mul k (Fl.val k x) (Fl.val k y)) := (arith_ex .mul (by decide) t k x y w).choose_spec.2
theorem run_mul_eq (t : TypeId) (k : FloatKind) (x y : Nat) (w : World) : (binOp .mul t (.float k x) (.float k y)).run Try.prog w = .ok (.float k (mulBits t k x y w)) (w.drewN (mulDraws t k x y w)) := (arith_ex .mul (by decide) t k x y w).choose_spec.1

theorem dot_step {s x y : Nat} {S : Option Nat} (h : FR .f32 s S) (t t' : TypeId) (w1 w2 : World) : FR .f32 (addBits t .f32 s (mulBits t' .f32 x y w1) w2) (bin .add .f32 S (bin .mul .f32 (Fl.val .f32 x) (Fl.val .f32 y))) := by
  have h1 := addBits_fr t .f32 s (mulBits t' .f32 x y w1) w2
  rw [h.val, (mulBits_fr t' .f32 x y w1).val] at h1
  exact h1

def dotV (xs ys : List Nat) : Nat → Option Nat
  | 0 => some 0
  | i + 1 => bin .add .f32 (dotV xs ys i) (bin .mul .f32 (Fl.val .f32 (xs.getD i 0)) (Fl.val .f32 (ys.getD i 0)))

attribute [local go_sem] run_add_eq run_mul_eq

theorem spec_l01Dot (A B : Option Addr) (cap cap' : Nat) (xs ys : List Nat) (n : Nat) (hn : xs.length = n) (hn' : ys.length = n) (hle : n ≤ 1048576) (w : World) (hA : FloatsAt w w.heap.size A xs) (hB : FloatsAt w w.heap.size B ys) :
    Calls Try.prog 16 #[.slice A n cap, .slice B n cap'] w fun e w' => ∃ r, e = .returned (.float .f32 r) ∧ FR .f32 r (dotV xs ys n) ∧ ∃ n, w' = w.drewN n := by
  have HA : Hid (FloatsAt w w.heap.size A xs) := hA
  have HB : Hid (FloatsAt w w.heap.size B ys) := hB
  have HN : Hid (xs.length = n) := hn
  have HN' : Hid (ys.length = n) := hn'
  clear hA hn hB hn'
  go_enter Try.func16, Try.ntmps16
  go_wp2_with fail
  go_loopw [5, 6] (fun s k wr => ∃ (i sb : Nat), i ≤ n ∧ s = .float .f32 sb ∧ k = .int .i64 (i : Int) ∧ FR .f32 sb (dotV xs ys i) ∧ ∃ m, wr = w.drewN m) (fun _ k _ => n - (intOf k).toNat)
  case atStart => exact ⟨0, 0, Nat.zero_le _, rfl, rfl, ⟨by decide, v32z⟩, 0, rfl⟩
  case round =>
    obtain ⟨i, sb, hi, rfl, rfl, hs, m, rfl⟩ := hrel
    by_cases hlt : i < n
    · have b1 : (i : Int) < (n : Int) := by omega
      have b2 : (0 : Int) ≤ (i : Int) := by omega
      have b3 : (i : Int) < 1048576 := by omega
      obtain ⟨b, off, rfl, hbl, hcell, hxl⟩ := HA.out i (by rw [HN.out]; exact hlt)
      obtain ⟨b', off', rfl, hbl', hcell', _⟩ := HB.out i (by rw [HN'.out]; exact hlt)
      go_wp2_with fail
      go_region_held (fun w' => w'.cell? ⟨b, off + i, none⟩ = some (.float .f32 (xs.getD i 0)) ∧ w'.cell? ⟨b', off' + i, none⟩ = some (.float .f32 (ys.getD i 0)) ∧ ∃ m, w' = w.drewN m) ((refine ⟨by go_keep, by go_keep, ?_⟩; first | exact ⟨m + 1, rfl⟩ | exact ⟨m + 1 + _, rfl⟩ | exact ⟨m + 1 + _ + _, rfl⟩)) (fail)
      all_goals
        go_wp2_with fail
        go_roundw
        case rel => exact ⟨i + 1, _, hlt, rfl, by simp, dot_step hs _ _ _ _, _, rfl⟩
        case measure => simp [intOf]; omega
    · obtain rfl : i = n := by omega
      go_wp2_with fail
      go_ret
      exact ⟨sb, rfl, hs, m, rfl⟩

theorem impl_DotNumbers_few (A B : Option Addr) (cap cap' : Nat) (xs ys : List Nat) (n : Nat) (hn : xs.length = n) (hn' : ys.length = n) (hle : n ≤ 256) (w : World) (hA : FloatsAt w w.heap.size A xs) (hB : FloatsAt w w.heap.size B ys) :
    Calls Try.prog 8 #[.slice A n cap, .slice B n cap'] w fun e w' => ∃ r, e = .returned (.tuple #[.float .f32 r, .bool true]) ∧ FR .f32 r (dotV xs ys n) ∧ ∃ n, w' = w.drewN n := by
  have HA : Hid (FloatsAt w w.heap.size A xs) := hA
  have HB : Hid (FloatsAt w w.heap.size B ys) := hB
  have HN : Hid (xs.length = n) := hn
  have HN' : Hid (ys.length = n) := hn'
  have b0 : ¬ (256 : Int) < (n : Int) := by omega
  clear hA hn hB hn'
  go_enter Try.func8, Try.ntmps8
  go_wp2_with fail
  go_loopw [6, 7, 20] (fun s k0 k wr => ∃ (i sb : Nat), i ≤ n ∧ s = .float .f32 sb ∧ k = .int .i64 (i : Int) ∧ FR .f32 sb (dotV xs ys i) ∧ ∃ m, wr = w.drewN m) (fun _ _ k _ => n - (intOf k).toNat)
  case atStart => exact ⟨0, 0, Nat.zero_le _, rfl, rfl, ⟨by decide, v32z⟩, 0, rfl⟩
  case round =>
    obtain ⟨i, sb, hi, rfl, rfl, hs, m, rfl⟩ := hrel
    by_cases hlt : i < n
    · have b1 : (i : Int) < (n : Int) := by omega
      have b2 : (0 : Int) ≤ (i : Int) := by omega
      have b3 : (i : Int) < 1048576 := by omega
      obtain ⟨b, off, rfl, hbl, hcell, hxl⟩ := HA.out i (by rw [HN.out]; exact hlt)
      obtain ⟨b', off', rfl, hbl', hcell', _⟩ := HB.out i (by rw [HN'.out]; exact hlt)
      go_wp2_with fail
      go_region_held (fun w' => w'.cell? ⟨b, off + i, none⟩ = some (.float .f32 (xs.getD i 0)) ∧ w'.cell? ⟨b', off' + i, none⟩ = some (.float .f32 (ys.getD i 0)) ∧ ∃ m, w' = w.drewN m) ((refine ⟨by go_keep, by go_keep, ?_⟩; first | exact ⟨m + 1, rfl⟩ | exact ⟨m + 1 + _, rfl⟩ | exact ⟨m + 1 + _ + _, rfl⟩)) (fail)
      all_goals
        go_wp2_with fail
        go_roundw
        case rel => exact ⟨i + 1, _, hlt, rfl, by simp, dot_step hs _ _ _ _, _, rfl⟩
        case measure => simp [intOf]; omega
    · obtain rfl : i = n := by omega
      go_wp2_with fail
      go_ret2
      exact ⟨sb, rfl, hs, m, rfl⟩

theorem impl_DotNumbers_no (A B : Option Addr) (cap cap' n n' : Nat) (h : ¬ (n ≤ 256 ∧ n = n')) (w : World) :
    Calls Try.prog 8 #[.slice A n cap, .slice B n' cap'] w fun e w' => e = .returned (.tuple #[.float .f32 0, .bool false]) ∧ ∃ m, w' = w.drewN m := by
  by_cases h1 : n ≤ 256
  · have b1 : ¬ (256 : Int) < (n : Int) := by omega
    have b2 : ((n : Int) != (n' : Int)) = true := by simp; omega
    go_enter Try.func8, Try.ntmps8
    go_wp2_with fail
    go_ret2
    exact ⟨rfl, 0, rfl⟩
  · have b1 : (256 : Int) < (n : Int) := by omega
    go_enter Try.func8, Try.ntmps8
    go_wp2_with fail
    go_ret2
    exact ⟨rfl, 0, rfl⟩

theorem spec_DotNumbers_no (A B : Option Addr) (cap cap' n n' : Nat) (h : ¬ (n ≤ 256 ∧ n = n')) (hle : n ≤ 1048576) (w : World) :
    Calls Try.prog 6 #[.slice A n cap, .slice B n' cap'] w fun e w' => e = .returned (.tuple #[.float .f32 0, .bool false]) ∧ ∃ m, w' = w.drewN m := by
  by_cases h1 : n ≤ 256
  · have hd : decide (n ≤ 256) = true := decide_eq_true h1
    have b2 : ((n : Int) != (n' : Int)) = true := by simp; omega
    go_enter Try.func6, Try.ntmps6
    go_wp2_with (first | (go_at_call 15; refine (spec_l01Few _ _ _ hle _).mono ?_; rw [hd]; rintro e w' ⟨rfl, rfl⟩) | fail)
    go_ret2
    exact ⟨rfl, 0, rfl⟩
  · have hd : decide (n ≤ 256) = false := decide_eq_false h1
    go_enter Try.func6, Try.ntmps6
    go_wp2_with (first | (go_at_call 15; refine (spec_l01Few _ _ _ hle _).mono ?_; rw [hd]; rintro e w' ⟨rfl, rfl⟩) | fail)
    go_ret2
    exact ⟨rfl, 0, rfl⟩

theorem spec_DotNumbers_few (A B : Option Addr) (cap cap' : Nat) (xs ys : List Nat) (n : Nat) (hn : xs.length = n) (hn' : ys.length = n) (hle : n ≤ 256) (w : World) (hA : FloatsAt w w.heap.size A xs) (hB : FloatsAt w w.heap.size B ys) :
    Calls Try.prog 6 #[.slice A n cap, .slice B n cap'] w fun e w' => ∃ r, e = .returned (.tuple #[.float .f32 r, .bool true]) ∧ FR .f32 r (dotV xs ys n) ∧ ∃ n, w' = w.drewN n := by
  have hd : decide (n ≤ 256) = true := decide_eq_true hle
  have HA : Hid (FloatsAt w w.heap.size A xs) := hA
  have HB : Hid (FloatsAt w w.heap.size B ys) := hB
  have HN : Hid (xs.length = n) := hn
  have HN' : Hid (ys.length = n) := hn'
  clear hA hn hB hn'
  go_enter Try.func6, Try.ntmps6
  go_wp2_with (first | (go_at_call 15; refine (spec_l01Few _ _ _ (by omega) _).mono ?_; rw [hd]; rintro e w' ⟨rfl, rfl⟩) | (go_at_call 16; refine (spec_l01Dot _ _ _ _ xs ys _ HN.out HN'.out (by omega) _ HA.out HB.out).mono ?_; rintro e w' ⟨r, rfl, hr, m, rfl⟩) | fail)
  go_ret2
  exact ⟨r, rfl, hr, m, rfl⟩
end Go.Proofs.Ytilaempppmhohaa
