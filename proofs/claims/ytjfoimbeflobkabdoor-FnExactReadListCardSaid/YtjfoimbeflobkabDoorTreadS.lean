/-
  The law ReadList.
-/
import Derived.Test.YtjfoimbeflobkabDoorTcutL
import Derived.Test.YtjfoimbeflobkabDoorTmarkI
namespace Go.Proofs.YtjfoimbeflobkabDoor
open Go.RowKit Go.Proofs.YtjfoimbeflobkabDoorW.PrintWords
set_option linter.unusedVariables false

/-- A row whose blocks lie below B. -/
theorem R_low {α : Type} {d : Kd α} {e base : Nat} {w : World} {v : Value} {xs : List α} (h : d.R e w base (fun _ => True) v xs) : d.R e w base (fun k => k < w.heap.size) v xs := Kd.R_mono (Kd.R_bound h) (fun k hk => hk.2.2.1)
theorem R_other {α : Type} {d : Kd α} {e base B : Nat} {w w' : World} {v : Value} {xs : List α} {row : Option Nat} (h : d.R e w base (fun k => k < B) v xs) (hg : w.grownBy w' row) (hr : ∀ k, row = some k → B ≤ k) : d.R e w' base (fun k => k < B) v xs :=
  Kd.R_grown h hg (fun k hk e => by have := hr k e.symm; omega)

theorem R_C {α : Type} {d : Kd α} {e base n c : Nat} {w : World} {A : Option Addr} {ok : Nat → Prop} {xs : List α} (h : d.R e w base ok (.slice A n c) xs) : d.C w A n xs ∧ n ≤ c := by
  obtain ⟨h1, h2, h3⟩ := Kd.R_reads' h
  subst h1
  exact ⟨h3, h2⟩

theorem mark_step {w0 w : World} {b0 B b1 e1 c : Nat} {A : Option Addr} {l l1 : List Int} {v1 : Value} (h2 : Kd.R (Kd.int .i64) 2 w B (fun _ => True) (.slice A l.length c) l) (h1 : Kd.R (Kd.int .i64) e1 w b1 (fun k => k < B) v1 l1) (K : Below b0 w0 w) (hB : b0 ≤ B) (hw : b0 ≤ w.heap.size) (hl : l.length ≤ 1048576) :
    Calls Tryd.prog 11 #[.slice A l.length c, .int .i64 1] w fun e w' => e = .returned (.int .i64 (1 + (l.length : Int))) ∧ Kd.R (Kd.int .i64) 2 w' B (fun _ => True) (.slice A l.length c) (marksI l.length) ∧ Kd.R (Kd.int .i64) e1 w' b1 (fun k => k < B) v1 l1 ∧ Below b0 w0 w' := by
  have hb := Kd.R_base h2
  refine (laws_markInt64S _ l hl w B (Kd.own_of_R h2)).mono ?_
  rintro e w' ⟨rfl, ho, hg⟩
  refine ⟨rfl, Kd.R_of_own (by rw [marksI_len]; exact ho) (fun _ _ => trivial), R_other h1 hg hb, Below.grown K hg hw (fun k hk => Nat.le_trans hB (hb k hk))⟩

theorem spec_ReadList (s : ByteArray) (hs : s.size ≤ 1048576) (w : World) :
    Calls Tryd.prog 8 #[.string s] w fun e w' => ∃ v : Value, e = .returned (.tuple #[v, .bool (readL s).2]) ∧ Kd.R (Kd.int .i64) 2 w' w.heap.size (fun _ => True) v (readL s).1 ∧ Below w.heap.size w w' :=
  PReadList.spec_ReadList.calls (s.size + 300) s _ _ w (readList_f s hs)

theorem fnExactReadList_walk (w : World) (s : ByteArray) (ws : s.size ≤ maxLen) (ht : Tab w) (he : Errs w) (hm : MaxSome w) :
    Calls Tryd.prog 3 #[.string s] w fun e w' => e = .returned (.bool true) ∧ Below w.heap.size w w' := by
  by_cases hl : s.size ≤ 1048576
  · have b1 : ¬ (1048576 : Int) < (s.size : Int) := by omega
    have h1 := spec_ReadList s hl
    have h2 := impl_ReadList s hl
    have h64 := readL_len s
    obtain ⟨l, b, hlb⟩ : ∃ l b, readL s = (l, b) := ⟨_, _, rfl⟩
    rw [hlb] at h1 h2 h64
    have H1 : Hid (∀ w, Calls Tryd.prog 8 #[.string s] w fun e w' => ∃ v : Value, e = .returned (.tuple #[v, .bool b]) ∧ Kd.R (Kd.int .i64) 2 w' w.heap.size (fun _ => True) v l ∧ Below w.heap.size w w') := h1
    have H2 : Hid (∀ w, MaxSome w → Tab w → Errs w → Calls Tryd.prog 9 #[.string s] w fun e w' => ∃ v : Value, e = .returned (.tuple #[v, .bool b]) ∧ Kd.R (Kd.int .i64) 2 w' w.heap.size (fun _ => True) v l ∧ Below w.heap.size w w') := h2
    have HT : Hid (Tab w) := ht
    have HE : Hid (Errs w) := he
    have HM : Hid (MaxSome w) := hm
    have hlen : l.length ≤ 1048576 := by have : l.length ≤ 64 := h64; omega
    have b2 : ¬ (1 + (l.length : Int)) < 0 := by omega
    clear h1 h2 hlb ht he ws hm h64
    go_enter Tryd.func3, Tryd.ntmps3
    go_wp2_with (first
      | (go_at_call 8; refine (H1.out _).mono ?_; rintro e w1 ⟨v1, rfl, hR, K1⟩; obtain ⟨A1, c1, rfl⟩ := Kd.R_slice hR; have R1 := Lib.hid (R_low hR); have B1 := Lib.hid (Nat.le_refl w1.heap.size); clear hR)
      | (go_at_call 9; first
          | (refine (H2.out _ (HM.out.below K5) (HT.out.below K5) (HE.out.below K5)).mono ?_; rintro e w6 ⟨v6, rfl, hR, hb⟩; obtain ⟨A6, c6, rfl⟩ := Kd.R_slice hR; have R6 := Lib.hid hR; have R1f := Lib.hid (Kd.R_below R1e.out hb); have R2f := Lib.hid (Kd.R_below R2e.out hb); have K6 := below_next K5 hb; clear hR hb)
          | (refine (H2.out _ (HM.out.below K1) (HT.out.below K1) (HE.out.below K1)).mono ?_; rintro e w2 ⟨v2, rfl, hR, hb⟩; obtain ⟨A2, c2, rfl⟩ := Kd.R_slice hR; have R2b := Lib.hid hR; have R1b := Lib.hid (Kd.R_below R1.out hb); have K2 := below_next K1 hb; clear hR hb))
      | (go_at_call 10; first
          | (refine (laws_eqInt64S _ _ _ _ l hlen _ (R_C R6.out).1 (R_C R6.out).2 (R_C R1f.out).1 (R_C R1f.out).2).mono ?_; rintro e w7 ⟨rfl, m7, rfl⟩; have R2g := Lib.hid (Kd.R_drewN R2f.out m7); have K7 := pw_below_drewN K6 m7)
          | (refine (laws_eqInt64S _ _ _ _ l hlen _ (R_C R2b.out).1 (R_C R2b.out).2 (R_C R1b.out).1 (R_C R1b.out).2).mono ?_; rintro e w3 ⟨rfl, m3, rfl⟩; have R2c := Lib.hid (Kd.R_drewN R2b.out m3); have R1c := Lib.hid (Kd.R_drewN R1b.out m3); have K3 := pw_below_drewN K2 m3))
      | (go_at_call 11; refine (mark_step R2c.out R1c.out K3 K1.size K3.size hlen).mono ?_; rintro e w4 ⟨rfl, hR2, hR1, K4⟩; have R2d := Lib.hid hR2; have R1d := Lib.hid hR1; clear hR2 hR1)
      | (go_at_call 12; first
          | (refine (laws_heldInt64S _ _ l.length hlen _ (R_C R2g.out).1 (R_C R2g.out).2).mono ?_; rintro e w8 ⟨rfl, m8, rfl⟩; have K8 := pw_below_drewN K7 m8)
          | (refine (laws_heldInt64S _ _ l.length hlen _ (R_C R2d.out).1 (R_C R2d.out).2).mono ?_; rintro e w5 ⟨rfl, m5, rfl⟩; have R2e := Lib.hid (Kd.R_drewN R2d.out m5); have R1e := Lib.hid (Kd.R_drewN R1d.out m5); have K5 := pw_below_drewN K4 m5))
      | fail)
    go_ret
    exact ⟨rfl, by first | exact K8 | exact pw_below_drewN K6 _⟩
  · have b1 : (1048576 : Int) < (s.size : Int) := by omega
    go_enter Tryd.func3, Tryd.ntmps3
    go_wp2_with fail
    go_ret
    exact ⟨rfl, Below.refl _ _⟩

end Go.Proofs.YtjfoimbeflobkabDoor
