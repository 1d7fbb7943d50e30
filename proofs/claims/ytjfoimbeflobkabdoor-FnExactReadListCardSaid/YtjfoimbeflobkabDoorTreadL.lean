/-
  Contracts: a decimal text read, both sides; the law ReadDecimal.
-/
import Derived.Test.YtjfoimbeflobkabDoorTread
import Derived.Test.YtjfoimbeflobkabDoorTdecL
import Derived.Test.YtjfoimbeflobkabDoorTerr
import Derived.Test.YtjfoimbeflobkabDoorIn
import Derived.Test.YtjfoimbeflobkabDoorShelfParse
import Derived.Lib.ConvBytes
import Derived.Lib.Hide
namespace Go.Proofs.YtjfoimbeflobkabDoor
open Go.RowKit
set_option linter.unusedVariables false

theorem impl_isValue (n : Int) (w : World) : Calls Tryd.prog 55 #[.int .i64 n] w fun e w' => e = .returned (.bool (inR n (-1000000000000000) 1000000000000000)) ∧ w = w' := by
  go_enter Tryd.func55, Tryd.ntmps55
  go_wp2_with (first | (go_at_call 69; refine (impl_within _ _ _ _).mono ?_; rintro e w' ⟨rfl, rfl⟩) | fail)
  go_ret
  exact ⟨rfl, rfl⟩

theorem impl_ReadDecimal (s : ByteArray) (hs : s.size ≤ 1048576) (w : World) (ht : Tab w) (he : Errs w) :
    Calls Tryd.prog 41 #[.string s] w fun e w' => e = .returned (.tuple #[.int .i64 ((readV s).getD 0), .bool (readV s).isSome]) ∧ Below w.heap.size w w' := by
  obtain ⟨tp, p, tq, q, hR, hS⟩ := he
  rcases hp : Lib.parseIntB 64 s.data.toList with v | _ | _
  · skip
    have HP := Lib.hid hp
    have HT : Hid (Tab w) := ht
    have hw : ∀ w1 : World, (w1 = w ∨ ∃ t, w1 = Lib.bytesWorld w 5 t) → Below w.heap.size w w1 := by
      rintro w1 (rfl | ⟨t, rfl⟩)
      · exact Below.refl _ _
      · exact Lib.bytesWorld_below _ _ _
    by_cases h0 : -1000000000000000 ≤ v ∧ v ≤ 1000000000000000
    · have hin := inR_true h0.1 h0.2
      by_cases hd : decS v = s
      · rw [readV_some h0.1 h0.2 hd]
        have hne : (!((decS v).toList == s.toList)) = false := by rw [hd]; simp
        have HW : Hid (∀ w1 : World, (w1 = w ∨ ∃ t, w1 = Lib.bytesWorld w 5 t) → Below w.heap.size w w1) := hw
        have H0 : Hid (-1000000000000000 ≤ v ∧ v ≤ 1000000000000000) := h0
        clear hp hd hw ht hR hS h0
        go_enter Tryd.func41, Tryd.ntmps41
        go_wp2_with (first | (go_at_call 54; refine (Tryd.strconv_ParseInt_10_at64_ok s (by omega) v HP.out _).mono ?_; rintro e w1 ⟨rfl, hw1⟩; have hb1 := HW.out _ hw1; clear hw1) | (go_at_call 55; refine (impl_isValue _ _).mono ?_; rintro e w' ⟨rfl, rfl⟩) | (go_at_call 56; refine (impl_Decimal_any v (by have := H0.out; omega) (by have := H0.out; omega) _ (HT.out.below hb1)).mono ?_; rintro e w2 ⟨rfl, hb2⟩) | fail)
        go_ret2
        exact ⟨rfl, below_next hb1 hb2⟩
      · have hnone : readV s = none := readV_none (fun n k0 k1 hn => by
          have := parse_itoa n k0 k1
          rw [← decS_list, hn, hp] at this
          injection this with this
          subst this
          exact hd hn)
        rw [hnone]
        have hne : (!((decS v).toList == s.toList)) = true := by
          simp only [Bool.not_eq_true', beq_eq_false_iff_ne, ne_eq]
          intro h
          apply hd
          rw [ByteArray.toList_eq, ByteArray.toList_eq] at h
          exact ByteArray.ext (Array.toList_inj.1 h)
        have HW : Hid (∀ w1 : World, (w1 = w ∨ ∃ t, w1 = Lib.bytesWorld w 5 t) → Below w.heap.size w w1) := hw
        have H0 : Hid (-1000000000000000 ≤ v ∧ v ≤ 1000000000000000) := h0
        clear hp hd hw ht hR hS h0 hnone
        go_enter Tryd.func41, Tryd.ntmps41
        go_wp2_with (first | (go_at_call 54; refine (Tryd.strconv_ParseInt_10_at64_ok s (by omega) v HP.out _).mono ?_; rintro e w1 ⟨rfl, hw1⟩; have hb1 := HW.out _ hw1; clear hw1) | (go_at_call 55; refine (impl_isValue _ _).mono ?_; rintro e w' ⟨rfl, rfl⟩) | (go_at_call 56; refine (impl_Decimal_any v (by have := H0.out; omega) (by have := H0.out; omega) _ (HT.out.below hb1)).mono ?_; rintro e w2 ⟨rfl, hb2⟩) | fail)
        go_ret2
        exact ⟨rfl, below_next hb1 hb2⟩
    · have hin := inR_false (n := v) (lo := -1000000000000000) (hi := 1000000000000000) (by omega)
      have hnone : readV s = none := readV_none (fun n k0 k1 hn => by
        have := parse_itoa n k0 k1
        rw [← decS_list, hn, hp] at this
        injection this with this
        subst this
        exact h0 ⟨k0, k1⟩)
      rw [hnone]
      have HW : Hid (∀ w1 : World, (w1 = w ∨ ∃ t, w1 = Lib.bytesWorld w 5 t) → Below w.heap.size w w1) := hw
      clear hp hw ht hR hS h0 hnone
      go_enter Tryd.func41, Tryd.ntmps41
      go_wp2_with (first | (go_at_call 54; refine (Tryd.strconv_ParseInt_10_at64_ok s (by omega) v HP.out _).mono ?_; rintro e w1 ⟨rfl, hw1⟩; have hb1 := HW.out _ hw1; clear hw1) | (go_at_call 55; refine (impl_isValue _ _).mono ?_; rintro e w' ⟨rfl, rfl⟩) | fail)
      go_ret2
      exact ⟨rfl, hb1⟩
  · skip
    have hnone : readV s = none := readV_none (fun n h0 h1 hn => by
      have := parse_itoa n h0 h1
      rw [← decS_list, hn, hp] at this
      cases this)
    rw [hnone]
    have HS : Hid (w.var? Tryd.prog "strconv.ErrSyntax" = some #[.iface tq q]) := hS
    have HP := Lib.hid hp
    clear hR hS hp hnone ht
    go_enter Tryd.func41, Tryd.ntmps41
    go_wp2_with (first | (go_at_call 54; refine (Tryd.strconv_ParseInt_10_at64_syntax_var s (by omega) HP.out tq q _ HS.out).mono ?_; rintro e w1 ⟨N, rfl, hN, hc, hb1⟩) | fail)
    go_ret2
    exact ⟨rfl, hb1⟩
  · skip
    have hnone : readV s = none := readV_none (fun n h0 h1 hn => by
      have := parse_itoa n h0 h1
      rw [← decS_list, hn, hp] at this
      cases this)
    rw [hnone]
    have HS : Hid (w.var? Tryd.prog "strconv.ErrRange" = some #[.iface tp p]) := hR
    have HP := Lib.hid hp
    clear hR hS hp hnone ht
    go_enter Tryd.func41, Tryd.ntmps41
    go_wp2_with (first | (go_at_call 54; refine (Tryd.strconv_ParseInt_10_at64_range_var s (by omega) HP.out tp p _ HS.out).mono ?_; rintro e w1 ⟨N, rfl, hN, hc, hb1⟩) | fail)
    go_ret2
    exact ⟨rfl, hb1⟩

theorem spec_l01Value_any (s : ByteArray) (w : World) : Calls Tryd.prog 40 #[.string s] w fun e w' => e = .returned (.tuple #[.int .i64 ((readV s).getD 0), .bool (readV s).isSome]) ∧ Below w.heap.size w w' :=
  Pl01Value.spec_l01Value.calls 100 s _ _ w (spec_read s)

end Go.Proofs.YtjfoimbeflobkabDoor
