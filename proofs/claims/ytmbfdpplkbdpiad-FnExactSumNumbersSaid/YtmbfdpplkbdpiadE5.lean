/-
  The law SumNumbers.
-/
import Derived.Test.YtmbfdpplkbdpiadE3
import Derived.Test.YtmbfdpplkbdpiadE4
namespace Go.Proofs.Ytmbfdpplkbdpiad
open Go.RowKit Fl
set_option linter.unusedVariables false

theorem fnExactSumNumbers_many (A : Option Addr) (cap n : Nat) (h : 1048576 < n) (w : World) :
    Calls Try.prog 6 #[.slice A n cap] w fun e w' => e = .returned (.bool true) ∧ Below w.heap.size w w' := by
  have b1 : (1048576 : Int) < (n : Int) := by omega
  go_enter Try.func6, Try.ntmps6
  go_wp2_with fail
  go_ret
  exact ⟨rfl, Below.refl _ _⟩

theorem fnExactSumNumbers_few (A : Option Addr) (cap : Nat) (xs : List Nat) (n : Nat) (hn : xs.length = n) (hle : n ≤ 256) (w : World) (hA : FloatsAt w w.heap.size A xs) :
    Calls Try.prog 6 #[.slice A n cap] w fun e w' => e = .returned (.bool true) ∧ Below w.heap.size w w' := by
  have b1 : ¬ (1048576 : Int) < (n : Int) := by omega
  have HA : Hid (FloatsAt w w.heap.size A xs) := hA
  have HN : Hid (xs.length = n) := hn
  have hle' : n ≤ 1048576 := by omega
  clear hA hn
  go_enter Try.func6, Try.ntmps6
  go_wp2_with (first | (go_at_call 17; first | (refine (laws_toFloat32S _ _ xs _ HN.out hle' _ (HA2.out.drewN _)).mono ?_; rintro e w3 ⟨rfl, hf3, hs3, hb3⟩; have F3 : Hid (FloatsAt w3 w3.heap.size (some ⟨w2.heap.size, 0, none⟩) xs) := hf3; have G3 : Hid (FloatsAt w3 w3.heap.size (some ⟨w1.heap.size, 0, none⟩) xs) := FloatsAt.up (F2.out.drewN _) hb3; clear hf3) | (refine (laws_toFloat32S _ _ xs _ HN.out hle' _ (HA1.out.drewN _)).mono ?_; rintro e w2 ⟨rfl, hf2, hs2, hb2⟩; have F2 : Hid (FloatsAt w2 w2.heap.size (some ⟨w1.heap.size, 0, none⟩) xs) := hf2; have HA2 : Hid (FloatsAt w2 w2.heap.size A xs) := FloatsAt.up (HA1.out.drewN _) hb2; clear hf2) | (refine (laws_toFloat32S _ _ xs _ HN.out hle' _ HA.out).mono ?_; rintro e w1 ⟨rfl, hf1, hs1, hb1⟩; have F1 : Hid (FloatsAt w1 w1.heap.size (some ⟨w.heap.size, 0, none⟩) xs) := hf1; have HA1 : Hid (FloatsAt w1 w1.heap.size A xs) := FloatsAt.up HA.out hb1; clear hf1)) | (go_at_call 20; refine (spec_SumNumbers_few _ _ xs _ HN.out hle _ F1.out).mono ?_; rintro e w' ⟨r1, rfl, hr1, m1, rfl⟩) | (go_at_call 21; refine (impl_SumNumbers_few _ _ xs _ HN.out hle _ F2.out).mono ?_; rintro e w' ⟨r2, rfl, hr2, m2, rfl⟩) | (refine wpList_widen (o := ⟨some 25, _, _, _, _, _⟩) rfl _ _ _ rfl _ rfl (by kernel_rfl) (by kernel_rfl) ?_; intro q2 nq2 hq2; rw [hr2.val] at hq2) | (refine wpList_widen (o := ⟨some 27, _, _, _, _, _⟩) rfl _ _ _ rfl _ rfl (by kernel_rfl) (by kernel_rfl) ?_; intro q1 nq1 hq1; rw [hr1.val] at hq1) | (go_at_call 15; refine (sameFloat_FR _ _ _ (by assumption) (by assumption) _).mono ?_; rintro e w' ⟨rfl, n4, rfl⟩) | (go_at_call 19; refine (laws_eqFloat32S _ _ _ _ xs _ HN.out hle' _ G3.out F3.out).mono ?_; rintro e w' ⟨rfl, m5, rfl⟩) | fail)
  go_ret
  refine ⟨rfl, ?_⟩
  have k1 : Below w.heap.size w w1 := hb1
  have k2 : Below w.heap.size w1 w2 := Below.mono (w := w1) (w' := w2) ⟨hb2.os, hb2.tape, hb2.output, hb2.size, hb2.block⟩ hb1.size
  have k3 : Below w.heap.size w2 w3 := Below.mono (w := w2) (w' := w3) ⟨hb3.os, hb3.tape, hb3.output, hb3.size, hb3.block⟩ (Nat.le_trans hb1.size hb2.size)
  exact Below.drewN (k1.trans (k2.trans k3)) _
theorem fnExactSumNumbers_mid (A : Option Addr) (cap : Nat) (xs : List Nat) (n : Nat) (hn : xs.length = n) (hgt : ¬ n ≤ 256) (hle' : n ≤ 1048576) (w : World) (hA : FloatsAt w w.heap.size A xs) :
    Calls Try.prog 6 #[.slice A n cap] w fun e w' => e = .returned (.bool true) ∧ Below w.heap.size w w' := by
  have b1 : ¬ (1048576 : Int) < (n : Int) := by omega
  have HA : Hid (FloatsAt w w.heap.size A xs) := hA
  have HN : Hid (xs.length = n) := hn
  clear hA hn
  go_enter Try.func6, Try.ntmps6
  go_wp2_with (first | (go_at_call 17; first | (refine (laws_toFloat32S _ _ xs _ HN.out hle' _ (HA2.out.drewN _)).mono ?_; rintro e w3 ⟨rfl, hf3, hs3, hb3⟩; have F3 : Hid (FloatsAt w3 w3.heap.size (some ⟨w2.heap.size, 0, none⟩) xs) := hf3; have G3 : Hid (FloatsAt w3 w3.heap.size (some ⟨w1.heap.size, 0, none⟩) xs) := FloatsAt.up (F2.out.drewN _) hb3; clear hf3) | (refine (laws_toFloat32S _ _ xs _ HN.out hle' _ (HA1.out.drewN _)).mono ?_; rintro e w2 ⟨rfl, hf2, hs2, hb2⟩; have F2 : Hid (FloatsAt w2 w2.heap.size (some ⟨w1.heap.size, 0, none⟩) xs) := hf2; have HA2 : Hid (FloatsAt w2 w2.heap.size A xs) := FloatsAt.up (HA1.out.drewN _) hb2; clear hf2) | (refine (laws_toFloat32S _ _ xs _ HN.out hle' _ HA.out).mono ?_; rintro e w1 ⟨rfl, hf1, hs1, hb1⟩; have F1 : Hid (FloatsAt w1 w1.heap.size (some ⟨w.heap.size, 0, none⟩) xs) := hf1; have HA1 : Hid (FloatsAt w1 w1.heap.size A xs) := FloatsAt.up HA.out hb1; clear hf1)) | (go_at_call 20; refine (spec_SumNumbers_many _ _ _ hgt hle' _).mono ?_; rintro e w' ⟨rfl, m1, rfl⟩) | (go_at_call 21; refine (impl_SumNumbers_many _ _ _ hgt _).mono ?_; rintro e w' ⟨rfl, m2, rfl⟩) | (refine wpList_widen (o := ⟨some 25, _, _, _, _, _⟩) rfl _ _ _ rfl _ rfl (by kernel_rfl) (by kernel_rfl) ?_; intro q2 nq2 hq2) | (refine wpList_widen (o := ⟨some 27, _, _, _, _, _⟩) rfl _ _ _ rfl _ rfl (by kernel_rfl) (by kernel_rfl) ?_; intro q1 nq1 hq1) | (go_at_call 15; refine (sameFloat_FR _ _ _ (by assumption) (by assumption) _).mono ?_; rintro e w' ⟨rfl, n4, rfl⟩) | (go_at_call 19; refine (laws_eqFloat32S _ _ _ _ xs _ HN.out hle' _ G3.out F3.out).mono ?_; rintro e w' ⟨rfl, m5, rfl⟩) | fail)
  go_ret
  refine ⟨rfl, ?_⟩
  have k1 : Below w.heap.size w w1 := hb1
  have k2 : Below w.heap.size w1 w2 := Below.mono (w := w1) (w' := w2) ⟨hb2.os, hb2.tape, hb2.output, hb2.size, hb2.block⟩ hb1.size
  have k3 : Below w.heap.size w2 w3 := Below.mono (w := w2) (w' := w3) ⟨hb3.os, hb3.tape, hb3.output, hb3.size, hb3.block⟩ (Nat.le_trans hb1.size hb2.size)
  exact Below.drewN (k1.trans (k2.trans k3)) _
theorem fnExactSumNumbers_walk (w : World) (A : Option Addr) (n cap : Nat) (xs : List Nat) (hn : xs.length = n) (hA : FloatsAt w w.heap.size A xs) :
    Calls Try.prog 6 #[.slice A n cap] w fun e w' => e = .returned (.bool true) ∧ Below w.heap.size w w' := by
  by_cases h1 : n ≤ 256
  · exact fnExactSumNumbers_few A cap xs n hn h1 w hA
  · by_cases h2 : n ≤ 1048576
    · exact fnExactSumNumbers_mid A cap xs n hn h1 h2 w hA
    · exact fnExactSumNumbers_many A cap n (by omega) w
end Go.Proofs.Ytmbfdpplkbdpiad
