/-
  The law SumPairs.
-/
import Derived.Test.YtilaempppmhohaaE8
namespace Go.Proofs.Ytilaempppmhohaa
open Go.RowKit Fl
set_option linter.unusedVariables false

theorem PartAt.of {w : World} {H g : Nat} {xs : List Nat} (h : FloatsAt w H (some ⟨g, 0, none⟩) xs) : PartAt w g 0 xs := by
  intro i hi
  obtain ⟨b, off, e, _, hc, hx⟩ := h i hi
  cases e
  exact ⟨hc, hx⟩

theorem spec_SumPairs_many (A : Option Addr) (cap n : Nat) (h : ¬ n ≤ 256) (hle : n ≤ 1048576) (w : World) :
    Calls Try.prog 11 #[.slice A n cap] w fun e w' => e = .returned (.tuple #[.float .f32 0, .bool false]) ∧ ∃ m, w' = w.drewN m := by
  have hd : decide (n ≤ 256) = false := decide_eq_false h
  go_enter Try.func11, Try.ntmps11
  go_wp2_with (first | (go_at_call 15; refine (spec_l01Few _ _ _ hle _).mono ?_; rw [hd]; rintro e w' ⟨rfl, rfl⟩) | fail)
  go_ret2
  exact ⟨rfl, 0, rfl⟩

theorem spec_SumPairs_few (g : Nat) (xs : List Nat) (n : Nat) (hn : xs.length = n) (hle : n ≤ 256) (w : World) (hA : FloatsAt w w.heap.size (some ⟨g, 0, none⟩) xs) :
    Calls Try.prog 11 #[.slice (some ⟨g, 0, none⟩) n n] w fun e w' => ∃ r, e = .returned (.tuple #[.float .f32 r, .bool true]) ∧ FR .f32 r (pairsV xs n 0 n) ∧ ∃ m, w' = w.drewN m := by
  have hd : decide (n ≤ 256) = true := decide_eq_true hle
  have HA : Hid (PartAt w g 0 xs) := PartAt.of hA
  have HN : Hid (xs.length = n) := hn
  clear hA hn
  go_enter Try.func11, Try.ntmps11
  go_wp2_with (first | (go_at_call 15; refine (spec_l01Few _ _ _ (by omega) _).mono ?_; rw [hd]; rintro e w' ⟨rfl, rfl⟩) | (go_at_call 17; refine (spec_l01SumPairs g 0 xs (by rw [HN.out]; omega) _ HA.out n 0 n n 0 _ rfl (Nat.le_refl _) (by rw [HN.out]; omega) (Nat.le_refl _) (by omega) ⟨0, rfl⟩).mono ?_; rintro e w' ⟨r, rfl, hr, m, rfl⟩) | fail)
  go_ret2
  exact ⟨r, rfl, hr, m, rfl⟩

theorem impl_SumPairs_many (A : Option Addr) (cap n : Nat) (h : ¬ n ≤ 256) (w : World) :
    Calls Try.prog 12 #[.slice A n cap] w fun e w' => e = .returned (.tuple #[.float .f32 0, .bool false]) ∧ ∃ m, w' = w.drewN m := by
  have b1 : (256 : Int) < (n : Int) := by omega
  go_enter Try.func12, Try.ntmps12
  go_wp2_with fail
  go_ret2
  exact ⟨rfl, 0, rfl⟩

theorem impl_SumPairs_few (g : Nat) (xs : List Nat) (n : Nat) (hn : xs.length = n) (hle : n ≤ 256) (w : World) (hA : FloatsAt w w.heap.size (some ⟨g, 0, none⟩) xs) :
    Calls Try.prog 12 #[.slice (some ⟨g, 0, none⟩) n n] w fun e w' => ∃ r, e = .returned (.tuple #[.float .f32 r, .bool true]) ∧ FR .f32 r (pairsV xs n 0 n) ∧ ∃ m, w' = w.drewN m := by
  have b1 : ¬ (256 : Int) < (n : Int) := by omega
  have HA : Hid (PartAt w g 0 xs) := PartAt.of hA
  have HN : Hid (xs.length = n) := hn
  clear hA hn
  go_enter Try.func12, Try.ntmps12
  go_wp2_with (first | (go_at_call 18; refine (impl_pairs g 0 xs (by rw [HN.out]; omega) w HA.out n 0 n n 0 _ rfl (Nat.le_refl _) (by rw [HN.out]; omega) (Nat.le_refl _) (by omega) ⟨0, rfl⟩).mono ?_; rintro e w' ⟨r, rfl, hr, m, rfl⟩) | fail)
  go_ret2
  exact ⟨r, rfl, hr, m, rfl⟩

theorem fnExactSumPairs_many (A : Option Addr) (cap n : Nat) (h : 1048576 < n) (w : World) :
    Calls Try.prog 4 #[.slice A n cap] w fun e w' => e = .returned (.bool true) ∧ Below w.heap.size w w' := by
  have b1 : (1048576 : Int) < (n : Int) := by omega
  go_enter Try.func4, Try.ntmps4
  go_wp2_with fail
  go_ret
  exact ⟨rfl, Below.refl _ _⟩

theorem fnExactSumPairs_few (A : Option Addr) (cap : Nat) (xs : List Nat) (n : Nat) (hn : xs.length = n) (hle : n ≤ 256) (w : World) (hA : FloatsAt w w.heap.size A xs) :
    Calls Try.prog 4 #[.slice A n cap] w fun e w' => e = .returned (.bool true) ∧ Below w.heap.size w w' := by
  have b1 : ¬ (1048576 : Int) < (n : Int) := by omega
  have HA : Hid (FloatsAt w w.heap.size A xs) := hA
  have HN : Hid (xs.length = n) := hn
  have hle' : n ≤ 1048576 := by omega
  clear hA hn
  go_enter Try.func4, Try.ntmps4
  go_wp2_with (first | (go_at_call 7; first | (refine (laws_toFloat32S _ _ xs _ HN.out hle' _ (HA2.out.drewN _)).mono ?_; rintro e w3 ⟨rfl, hf3, hs3, hb3⟩; have F3 : Hid (FloatsAt w3 w3.heap.size (some ⟨w2.heap.size, 0, none⟩) xs) := hf3; have G3 : Hid (FloatsAt w3 w3.heap.size (some ⟨w1.heap.size, 0, none⟩) xs) := FloatsAt.up (F2.out.drewN _) hb3; clear hf3) | (refine (laws_toFloat32S _ _ xs _ HN.out hle' _ (HA1.out.drewN _)).mono ?_; rintro e w2 ⟨rfl, hf2, hs2, hb2⟩; have F2 : Hid (FloatsAt w2 w2.heap.size (some ⟨w1.heap.size, 0, none⟩) xs) := hf2; have HA2 : Hid (FloatsAt w2 w2.heap.size A xs) := FloatsAt.up (HA1.out.drewN _) hb2; clear hf2) | (refine (laws_toFloat32S _ _ xs _ HN.out hle' _ HA.out).mono ?_; rintro e w1 ⟨rfl, hf1, hs1, hb1⟩; have F1 : Hid (FloatsAt w1 w1.heap.size (some ⟨w.heap.size, 0, none⟩) xs) := hf1; have HA1 : Hid (FloatsAt w1 w1.heap.size A xs) := FloatsAt.up HA.out hb1; clear hf1)) | (go_at_call 11; refine (spec_SumPairs_few _ xs _ HN.out hle _ F1.out).mono ?_; rintro e w' ⟨r1, rfl, hr1, m1, rfl⟩) | (go_at_call 12; refine (impl_SumPairs_few _ xs _ HN.out hle _ F2.out).mono ?_; rintro e w' ⟨r2, rfl, hr2, m2, rfl⟩) | (refine wpList_widen (o := ⟨some 25, _, _, _, _, _⟩) rfl _ _ _ rfl _ rfl (by kernel_rfl) (by kernel_rfl) ?_; intro q2 nq2 hq2; rw [hr2.val] at hq2) | (refine wpList_widen (o := ⟨some 27, _, _, _, _, _⟩) rfl _ _ _ rfl _ rfl (by kernel_rfl) (by kernel_rfl) ?_; intro q1 nq1 hq1; rw [hr1.val] at hq1) | (go_at_call 9; refine (sameFloat_FR _ _ _ (by assumption) (by assumption) _).mono ?_; rintro e w' ⟨rfl, n4, rfl⟩) | (go_at_call 10; refine (laws_eqFloat32S _ _ _ _ xs _ HN.out hle' _ G3.out F3.out).mono ?_; rintro e w' ⟨rfl, m5, rfl⟩) | fail)
  go_ret
  refine ⟨rfl, ?_⟩
  have k1 : Below w.heap.size w w1 := hb1
  have k2 : Below w.heap.size w1 w2 := Below.mono (w := w1) (w' := w2) ⟨hb2.os, hb2.tape, hb2.output, hb2.size, hb2.block⟩ hb1.size
  have k3 : Below w.heap.size w2 w3 := Below.mono (w := w2) (w' := w3) ⟨hb3.os, hb3.tape, hb3.output, hb3.size, hb3.block⟩ (Nat.le_trans hb1.size hb2.size)
  exact Below.drewN (k1.trans (k2.trans k3)) _
theorem fnExactSumPairs_mid (A : Option Addr) (cap : Nat) (xs : List Nat) (n : Nat) (hn : xs.length = n) (hgt : ¬ n ≤ 256) (hle' : n ≤ 1048576) (w : World) (hA : FloatsAt w w.heap.size A xs) :
    Calls Try.prog 4 #[.slice A n cap] w fun e w' => e = .returned (.bool true) ∧ Below w.heap.size w w' := by
  have b1 : ¬ (1048576 : Int) < (n : Int) := by omega
  have HA : Hid (FloatsAt w w.heap.size A xs) := hA
  have HN : Hid (xs.length = n) := hn
  clear hA hn
  go_enter Try.func4, Try.ntmps4
  go_wp2_with (first | (go_at_call 7; first | (refine (laws_toFloat32S _ _ xs _ HN.out hle' _ (HA2.out.drewN _)).mono ?_; rintro e w3 ⟨rfl, hf3, hs3, hb3⟩; have F3 : Hid (FloatsAt w3 w3.heap.size (some ⟨w2.heap.size, 0, none⟩) xs) := hf3; have G3 : Hid (FloatsAt w3 w3.heap.size (some ⟨w1.heap.size, 0, none⟩) xs) := FloatsAt.up (F2.out.drewN _) hb3; clear hf3) | (refine (laws_toFloat32S _ _ xs _ HN.out hle' _ (HA1.out.drewN _)).mono ?_; rintro e w2 ⟨rfl, hf2, hs2, hb2⟩; have F2 : Hid (FloatsAt w2 w2.heap.size (some ⟨w1.heap.size, 0, none⟩) xs) := hf2; have HA2 : Hid (FloatsAt w2 w2.heap.size A xs) := FloatsAt.up (HA1.out.drewN _) hb2; clear hf2) | (refine (laws_toFloat32S _ _ xs _ HN.out hle' _ HA.out).mono ?_; rintro e w1 ⟨rfl, hf1, hs1, hb1⟩; have F1 : Hid (FloatsAt w1 w1.heap.size (some ⟨w.heap.size, 0, none⟩) xs) := hf1; have HA1 : Hid (FloatsAt w1 w1.heap.size A xs) := FloatsAt.up HA.out hb1; clear hf1)) | (go_at_call 11; refine (spec_SumPairs_many _ _ _ hgt hle' _).mono ?_; rintro e w' ⟨rfl, m1, rfl⟩) | (go_at_call 12; refine (impl_SumPairs_many _ _ _ hgt _).mono ?_; rintro e w' ⟨rfl, m2, rfl⟩) | (refine wpList_widen (o := ⟨some 25, _, _, _, _, _⟩) rfl _ _ _ rfl _ rfl (by kernel_rfl) (by kernel_rfl) ?_; intro q2 nq2 hq2) | (refine wpList_widen (o := ⟨some 27, _, _, _, _, _⟩) rfl _ _ _ rfl _ rfl (by kernel_rfl) (by kernel_rfl) ?_; intro q1 nq1 hq1) | (go_at_call 9; refine (sameFloat_FR _ _ _ (by assumption) (by assumption) _).mono ?_; rintro e w' ⟨rfl, n4, rfl⟩) | (go_at_call 10; refine (laws_eqFloat32S _ _ _ _ xs _ HN.out hle' _ G3.out F3.out).mono ?_; rintro e w' ⟨rfl, m5, rfl⟩) | fail)
  go_ret
  refine ⟨rfl, ?_⟩
  have k1 : Below w.heap.size w w1 := hb1
  have k2 : Below w.heap.size w1 w2 := Below.mono (w := w1) (w' := w2) ⟨hb2.os, hb2.tape, hb2.output, hb2.size, hb2.block⟩ hb1.size
  have k3 : Below w.heap.size w2 w3 := Below.mono (w := w2) (w' := w3) ⟨hb3.os, hb3.tape, hb3.output, hb3.size, hb3.block⟩ (Nat.le_trans hb1.size hb2.size)
  exact Below.drewN (k1.trans (k2.trans k3)) _
theorem fnExactSumPairs_walk (w : World) (A : Option Addr) (n cap : Nat) (xs : List Nat) (hn : xs.length = n) (hA : FloatsAt w w.heap.size A xs) :
    Calls Try.prog 4 #[.slice A n cap] w fun e w' => e = .returned (.bool true) ∧ Below w.heap.size w w' := by
  by_cases h1 : n ≤ 256
  · exact fnExactSumPairs_few A cap xs n hn h1 w hA
  · by_cases h2 : n ≤ 1048576
    · exact fnExactSumPairs_mid A cap xs n hn h1 h2 w hA
    · exact fnExactSumPairs_many A cap n (by omega) w
end Go.Proofs.Ytilaempppmhohaa
