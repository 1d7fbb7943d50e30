/-
  The law DotNumbers.
-/
import Derived.Test.YtilaempppmhohaaE6
import Derived.Test.YtilaempppmhohaaE4
namespace Go.Proofs.Ytilaempppmhohaa
open Go.RowKit Fl
set_option linter.unusedVariables false

theorem below_next {w W W1 : World} (h : Below w.heap.size w W) (k : Below W.heap.size W W1) : Below w.heap.size w W1 :=
  h.trans (k.mono h.size)

theorem fnExactDotNumbers_few (A B : Option Addr) (cap cap' : Nat) (xs ys : List Nat) (n : Nat) (hn : xs.length = n) (hn' : ys.length = n) (hle : n ≤ 256) (w : World) (hA : FloatsAt w w.heap.size A xs) (hB : FloatsAt w w.heap.size B ys) :
    Calls Try.prog 3 #[.slice A n cap, .slice B n cap'] w fun e w' => e = .returned (.bool true) ∧ Below w.heap.size w w' := by
  have b1 : ¬ (1048576 : Int) < (n : Int) := by omega
  have HA : Hid (FloatsAt w w.heap.size A xs) := hA
  have HB : Hid (FloatsAt w w.heap.size B ys) := hB
  have HN : Hid (xs.length = n) := hn
  have HN' : Hid (ys.length = n) := hn'
  clear hA hn hB hn'
  go_enter Try.func3, Try.ntmps3
  go_wp2_with (first | (go_at_call 7; first | (refine (laws_toFloat32S _ _ ys _ HN'.out (by omega) _ (FloatsAt.up HB.out (Below.drewN K5 _))).mono ?_; rintro e w6 ⟨rfl, hf6, hs6, hb6⟩; have F6 : Hid (FloatsAt w6 w6.heap.size (some ⟨w5.heap.size, 0, none⟩) ys) := hf6; have K6 : Below w.heap.size w w6 := below_next (Below.drewN K5 _) hb6; clear hf6 hs6) | (refine (laws_toFloat32S _ _ xs _ HN.out (by omega) _ (FloatsAt.up HA.out (Below.drewN K4 _))).mono ?_; rintro e w5 ⟨rfl, hf5, hs5, hb5⟩; have F5 : Hid (FloatsAt w5 w5.heap.size (some ⟨w4.heap.size, 0, none⟩) xs) := hf5; have K5 : Below w.heap.size w w5 := below_next (Below.drewN K4 _) hb5; clear hf5 hs5) | (refine (laws_toFloat32S _ _ ys _ HN'.out (by omega) _ (FloatsAt.up HB.out (K3))).mono ?_; rintro e w4 ⟨rfl, hf4, hs4, hb4⟩; have F4 : Hid (FloatsAt w4 w4.heap.size (some ⟨w3.heap.size, 0, none⟩) ys) := hf4; have K4 : Below w.heap.size w w4 := below_next (K3) hb4; clear hf4 hs4) | (refine (laws_toFloat32S _ _ xs _ HN.out (by omega) _ (FloatsAt.up HA.out (Below.drewN K2 _))).mono ?_; rintro e w3 ⟨rfl, hf3, hs3, hb3⟩; have F3 : Hid (FloatsAt w3 w3.heap.size (some ⟨w2.heap.size, 0, none⟩) xs) := hf3; have K3 : Below w.heap.size w w3 := below_next (Below.drewN K2 _) hb3; clear hf3 hs3) | (refine (laws_toFloat32S _ _ ys _ HN'.out (by omega) _ (FloatsAt.up HB.out (K1))).mono ?_; rintro e w2 ⟨rfl, hf2, hs2, hb2⟩; have F2 : Hid (FloatsAt w2 w2.heap.size (some ⟨w1.heap.size, 0, none⟩) ys) := hf2; have K2 : Below w.heap.size w w2 := below_next (K1) hb2; clear hf2 hs2) | (refine (laws_toFloat32S _ _ xs _ HN.out (by omega) _ (FloatsAt.up HA.out (Below.refl _ _))).mono ?_; rintro e w1 ⟨rfl, hf1, hs1, hb1⟩; have F1 : Hid (FloatsAt w1 w1.heap.size (some ⟨w.heap.size, 0, none⟩) xs) := hf1; have K1 : Below w.heap.size w w1 := below_next (Below.refl _ _) hb1; clear hf1 hs1)) | (go_at_call 6; (refine (spec_DotNumbers_few _ _ _ _ xs ys _ HN.out HN'.out hle _ (FloatsAt.up F1.out hb2) F2.out).mono ?_; rintro e w' ⟨r1, rfl, hr1, m1, rfl⟩)) | (go_at_call 8; (refine (impl_DotNumbers_few _ _ _ _ xs ys _ HN.out HN'.out hle _ (FloatsAt.up F3.out hb4) F4.out).mono ?_; rintro e w' ⟨r2, rfl, hr2, m2, rfl⟩)) | (refine wpList_widen (o := ⟨some 36, _, _, _, _, _⟩) rfl _ _ _ rfl _ rfl (by kernel_rfl) (by kernel_rfl) ?_; intro q2 nq2 hq2; rw [hr2.val] at hq2) | (refine wpList_widen (o := ⟨some 38, _, _, _, _, _⟩) rfl _ _ _ rfl _ rfl (by kernel_rfl) (by kernel_rfl) ?_; intro q1 nq1 hq1; rw [hr1.val] at hq1) | (go_at_call 9; refine (sameFloat_FR _ _ _ (by assumption) (by assumption) _).mono ?_; rintro e w' ⟨rfl, n4, rfl⟩) | (go_at_call 10; first | (refine (laws_eqFloat32S _ _ _ _ ys _ HN'.out (by omega) _ (FloatsAt.up ((FloatsAt.up (F4.out.drewN _) hb5).drewN _) hb6) F6.out).mono ?_; rintro e w' ⟨rfl, m7, rfl⟩) | (refine (laws_eqFloat32S _ _ _ _ xs _ HN.out (by omega) _ (FloatsAt.up ((FloatsAt.up F3.out hb4).drewN _) hb5) F5.out).mono ?_; rintro e w' ⟨rfl, m6, rfl⟩)) | fail)
  go_ret
  exact ⟨rfl, Below.drewN K6 _⟩

theorem fnExactDotNumbers_no (A B : Option Addr) (cap cap' : Nat) (xs ys : List Nat) (n n' : Nat) (hn : xs.length = n) (hn' : ys.length = n') (hno : ¬ (n ≤ 256 ∧ n = n')) (hle1 : n ≤ 1048576) (hle2 : n' ≤ 1048576) (w : World) (hA : FloatsAt w w.heap.size A xs) (hB : FloatsAt w w.heap.size B ys) :
    Calls Try.prog 3 #[.slice A n cap, .slice B n' cap'] w fun e w' => e = .returned (.bool true) ∧ Below w.heap.size w w' := by
  have b1 : ¬ (1048576 : Int) < (n : Int) := by omega
  have b2 : ¬ (1048576 : Int) < (n' : Int) := by omega
  have HNO : Hid (¬ (n ≤ 256 ∧ n = n')) := hno
  have HA : Hid (FloatsAt w w.heap.size A xs) := hA
  have HB : Hid (FloatsAt w w.heap.size B ys) := hB
  have HN : Hid (xs.length = n) := hn
  have HN' : Hid (ys.length = n') := hn'
  clear hA hn hB hn' hno
  go_enter Try.func3, Try.ntmps3
  go_wp2_with (first | (go_at_call 7; first | (refine (laws_toFloat32S _ _ ys _ HN'.out hle2 _ (FloatsAt.up HB.out (Below.drewN K5 _))).mono ?_; rintro e w6 ⟨rfl, hf6, hs6, hb6⟩; have F6 : Hid (FloatsAt w6 w6.heap.size (some ⟨w5.heap.size, 0, none⟩) ys) := hf6; have K6 : Below w.heap.size w w6 := below_next (Below.drewN K5 _) hb6; clear hf6 hs6) | (refine (laws_toFloat32S _ _ xs _ HN.out hle1 _ (FloatsAt.up HA.out (Below.drewN K4 _))).mono ?_; rintro e w5 ⟨rfl, hf5, hs5, hb5⟩; have F5 : Hid (FloatsAt w5 w5.heap.size (some ⟨w4.heap.size, 0, none⟩) xs) := hf5; have K5 : Below w.heap.size w w5 := below_next (Below.drewN K4 _) hb5; clear hf5 hs5) | (refine (laws_toFloat32S _ _ ys _ HN'.out hle2 _ (FloatsAt.up HB.out (K3))).mono ?_; rintro e w4 ⟨rfl, hf4, hs4, hb4⟩; have F4 : Hid (FloatsAt w4 w4.heap.size (some ⟨w3.heap.size, 0, none⟩) ys) := hf4; have K4 : Below w.heap.size w w4 := below_next (K3) hb4; clear hf4 hs4) | (refine (laws_toFloat32S _ _ xs _ HN.out hle1 _ (FloatsAt.up HA.out (Below.drewN K2 _))).mono ?_; rintro e w3 ⟨rfl, hf3, hs3, hb3⟩; have F3 : Hid (FloatsAt w3 w3.heap.size (some ⟨w2.heap.size, 0, none⟩) xs) := hf3; have K3 : Below w.heap.size w w3 := below_next (Below.drewN K2 _) hb3; clear hf3 hs3) | (refine (laws_toFloat32S _ _ ys _ HN'.out hle2 _ (FloatsAt.up HB.out (K1))).mono ?_; rintro e w2 ⟨rfl, hf2, hs2, hb2⟩; have F2 : Hid (FloatsAt w2 w2.heap.size (some ⟨w1.heap.size, 0, none⟩) ys) := hf2; have K2 : Below w.heap.size w w2 := below_next (K1) hb2; clear hf2 hs2) | (refine (laws_toFloat32S _ _ xs _ HN.out hle1 _ (FloatsAt.up HA.out (Below.refl _ _))).mono ?_; rintro e w1 ⟨rfl, hf1, hs1, hb1⟩; have F1 : Hid (FloatsAt w1 w1.heap.size (some ⟨w.heap.size, 0, none⟩) xs) := hf1; have K1 : Below w.heap.size w w1 := below_next (Below.refl _ _) hb1; clear hf1 hs1)) | (go_at_call 6; (refine (spec_DotNumbers_no _ _ _ _ _ _ HNO.out hle1 _).mono ?_; rintro e w' ⟨rfl, m1, rfl⟩)) | (go_at_call 8; (refine (impl_DotNumbers_no _ _ _ _ _ _ HNO.out _).mono ?_; rintro e w' ⟨rfl, m2, rfl⟩)) | (refine wpList_widen (o := ⟨some 36, _, _, _, _, _⟩) rfl _ _ _ rfl _ rfl (by kernel_rfl) (by kernel_rfl) ?_; intro q2 nq2 hq2) | (refine wpList_widen (o := ⟨some 38, _, _, _, _, _⟩) rfl _ _ _ rfl _ rfl (by kernel_rfl) (by kernel_rfl) ?_; intro q1 nq1 hq1) | (go_at_call 9; refine (sameFloat_FR _ _ _ (by assumption) (by assumption) _).mono ?_; rintro e w' ⟨rfl, n4, rfl⟩) | (go_at_call 10; first | (refine (laws_eqFloat32S _ _ _ _ ys _ HN'.out hle2 _ (FloatsAt.up ((FloatsAt.up (F4.out.drewN _) hb5).drewN _) hb6) F6.out).mono ?_; rintro e w' ⟨rfl, m7, rfl⟩) | (refine (laws_eqFloat32S _ _ _ _ xs _ HN.out hle1 _ (FloatsAt.up ((FloatsAt.up F3.out hb4).drewN _) hb5) F5.out).mono ?_; rintro e w' ⟨rfl, m6, rfl⟩)) | fail)
  go_ret
  exact ⟨rfl, Below.drewN K6 _⟩

theorem fnExactDotNumbers_many (A B : Option Addr) (cap cap' n n' : Nat) (h : 1048576 < n ∨ 1048576 < n') (w : World) :
    Calls Try.prog 3 #[.slice A n cap, .slice B n' cap'] w fun e w' => e = .returned (.bool true) ∧ Below w.heap.size w w' := by
  by_cases h1 : 1048576 < n
  · have b1 : (1048576 : Int) < (n : Int) := by omega
    go_enter Try.func3, Try.ntmps3
    go_wp2_with fail
    go_ret
    exact ⟨rfl, Below.refl _ _⟩
  · have b1 : ¬ (1048576 : Int) < (n : Int) := by omega
    have b2 : (1048576 : Int) < (n' : Int) := by omega
    go_enter Try.func3, Try.ntmps3
    go_wp2_with fail
    go_ret
    exact ⟨rfl, Below.refl _ _⟩

theorem fnExactDotNumbers_walk (w : World) (A : Option Addr) (n cap : Nat) (xs : List Nat) (hn : xs.length = n) (hA : FloatsAt w w.heap.size A xs) (B : Option Addr) (n' cap' : Nat) (ys : List Nat) (hn' : ys.length = n') (hB : FloatsAt w w.heap.size B ys) :
    Calls Try.prog 3 #[.slice A n cap, .slice B n' cap'] w fun e w' => e = .returned (.bool true) ∧ Below w.heap.size w w' := by
  by_cases h0 : 1048576 < n ∨ 1048576 < n'
  · exact fnExactDotNumbers_many A B cap cap' n n' h0 w
  · by_cases h1 : n ≤ 256 ∧ n = n'
    · obtain ⟨h1, h2⟩ := h1
      subst h2
      exact fnExactDotNumbers_few A B cap cap' xs ys n hn hn' h1 w hA hB
    · exact fnExactDotNumbers_no A B cap cap' xs ys n n' hn hn' h1 (by omega) (by omega) w hA hB
end Go.Proofs.Ytilaempppmhohaa
