-- written by a program of this session out of the translation (wip/gen/patch_print.py)
import Derived.Test.YtnibobbfepdeiaaPMeshx0
import Derived.Test.YtnibobbfepdeiaaPMeshx27
import Derived.Test.YtnibobbfepdeiaaPMeshx28
namespace Go.Proofs.Ytnibobbfepdeiaa.PMesh
open Go.RowKit Go.Proofs.YtnibobbfepdeiaaW.PrintWords Go.Proofs.YtnibobbfepdeiaaW.PrintLast Go.Proofs.YtnibobbfepdeiaaW.PrintMore
attribute [local go_sem] max2_int min2_int max_two min_two max_three min_three max_four min_four   -- for this text's walks alone
set_option linter.unusedVariables false
set_option linter.unusedSimpArgs false

/-! ### spec_l02Index: function 100 -/
def spec_l02Index.l0 : Nat → List (List Int) → Int → Int → Int → Option (Int)
  | 0, _, _, _, _ => none
  | k + 1, x0, x1, x2, x7 => if x7 < (x0.length : Int) then (if 0 ≤ x7 then (if 0 < ((rd_L3 x0 x7).length : Int) then ((spec_l00Min.f x1 x2).bind fun t406 => (if (rd (rd_L3 x0 x7) 0) = t406 then (if 1 < ((rd_L3 x0 x7).length : Int) then ((spec_l00Max.f x1 x2).bind fun t409 => (if (rd (rd_L3 x0 x7) 1) = t409 then (some x7) else (spec_l02Index.l0 k x0 x1 x2 (wrap64 (x7 + 1))))) else (none)) else (spec_l02Index.l0 k x0 x1 x2 (wrap64 (x7 + 1))))) else (none)) else (none)) else (some 0)
def spec_l02Index.f (k : Nat) (l0 : List (List Int)) (a1 : Int) (a2 : Int) : Option (Int) := spec_l02Index.l0 k l0 a1 a2 0
set_option maxHeartbeats 8000000 in
set_option maxRecDepth 100000 in
theorem spec_l02Index.calls (k : Nat) (A0 : Option Addr) (c0 : Nat) (l0 : List (List Int)) (a1 : Int) (a2 : Int) (r : Int) (w : World) (hr0 : Kd.C (Kd.slice 2 (Kd.int .i64)) w A0 l0.length l0) (hc0 : l0.length ≤ c0) (h : spec_l02Index.f k l0 a1 a2 = some r) :
    Calls Try.prog 100 #[.slice A0 l0.length c0, .int .i64 a1, .int .i64 a2] w fun e w' => e = .returned (.int .i64 r) ∧ Drawn0 w w' := by
  have HR0 := Aside0.mk hr0
  have HC0 := Aside0.mk hc0
  clear hr0 hc0
  have H : (spec_l02Index.l0 k l0 a1 a2 0) = some r := h
  clear h
  have H' := Aside0.mk H
  clear H
  go_enter Try.func100, Try.ntmps100
  go_wp2
  repeat (go_quiet (fail); try go_wp2)
  go_loopg [7] k (fun kq v7 w' => ∃ (x7_1 : Int), v7 = .int .i64 x7_1 ∧ Aside0 (spec_l02Index.l0 kq l0 a1 a2 x7_1 = some r) ∧ Aside0 (kq ≤ k) ∧ Drawn0 w w')
  case atStart => exact ⟨(0), (by first | rfl | (simp; done) | (simp [*]; done)), H', ⟨Nat.le_refl _⟩, by repeat (first | exact Drawn0.refl _ | apply Drawn0.step)⟩
  case round =>
    clear H'
    try clear c1
    try clear p2
    obtain ⟨x7_1, rfl, HA, HK1, ⟨m1, rfl⟩⟩ := hrel
    cases gk with
    | zero => exact absurd HA.out (by simp [spec_l02Index.l0])
    | succ k1 =>
      have H := HA.out
      clear HA
      simp only [spec_l02Index.l0] at H
      by_cases c4 : x7_1 < (l0.length : Int)
      · rw [if_pos c4] at H
        have c4b0 : decide (x7_1 < (l0.length : Int)) = true := decide_eq_true c4
        clear c4
        by_cases c5 : 0 ≤ x7_1
        · rw [if_pos c5] at H
          have c5b0 : decide (0 ≤ x7_1) = true := decide_eq_true c5
          clear c5
          by_cases c6 : 0 < ((rd_L3 l0 x7_1).length : Int)
          · rw [if_pos c6] at H
            have c6b0 : decide (0 < ((rd_L3 l0 x7_1).length : Int)) = true := decide_eq_true c6
            have c6b1 : decide (0 < (rd_L3 l0 x7_1).length) = true := decide_eq_true (by omega)
            clear c6
            replace H := Option.bind_eq_some_iff.mp H
            obtain ⟨t406, A70, H⟩ := H
            replace H : (if (rd (rd_L3 l0 x7_1) 0) = t406 then (if 1 < ((rd_L3 l0 x7_1).length : Int) then ((spec_l00Max.f a1 a2).bind fun t409 => (if (rd (rd_L3 l0 x7_1) 1) = t409 then (some x7_1) else (spec_l02Index.l0 k1 l0 a1 a2 (wrap64 (x7_1 + 1))))) else (none)) else (spec_l02Index.l0 k1 l0 a1 a2 (wrap64 (x7_1 + 1)))) = some r := H
            have A7 := Aside0.mk A70
            clear A70
            by_cases c8 : (rd (rd_L3 l0 x7_1) 0) = t406
            · rw [if_pos c8] at H
              have c8b0 : ((rd (rd_L3 l0 x7_1) 0) == t406) = true := beq_iff_eq.mpr c8
              have c8b1 : ((rd (rd_L3 l0 x7_1) 0) != t406) = false := bne_eq_false_iff_eq.mpr c8
              clear c8
              by_cases c9 : 1 < ((rd_L3 l0 x7_1).length : Int)
              · rw [if_pos c9] at H
                have c9b0 : decide (1 < ((rd_L3 l0 x7_1).length : Int)) = true := decide_eq_true c9
                have c9b1 : decide (1 < (rd_L3 l0 x7_1).length) = true := decide_eq_true (by omega)
                clear c9
                replace H := Option.bind_eq_some_iff.mp H
                obtain ⟨t409, A100, H⟩ := H
                replace H : (if (rd (rd_L3 l0 x7_1) 1) = t409 then (some x7_1) else (spec_l02Index.l0 k1 l0 a1 a2 (wrap64 (x7_1 + 1)))) = some r := H
                have A10 := Aside0.mk A100
                clear A100
                by_cases c11 : (rd (rd_L3 l0 x7_1) 1) = t409
                · rw [if_pos c11] at H
                  have c11b0 : ((rd (rd_L3 l0 x7_1) 1) == t409) = true := beq_iff_eq.mpr c11
                  have c11b1 : ((rd (rd_L3 l0 x7_1) 1) != t409) = false := bne_eq_false_iff_eq.mpr c11
                  clear c11
                  obtain rfl := Option.some.inj H
                  have p404 : 0 ≤ (x7_1 : Int) := of_decide_eq_true (by first | (with_reducible assumption) | assumption)
                  have q404 : x7_1 < (l0.length : Int) := of_decide_eq_true (by first | (with_reducible assumption) | assumption)
                  obtain ⟨ad404, A404_0, c404_0, e404, hx404_0, hl404_0, hi404_0⟩ := at_L3 HR0.out x7_1 p404 q404
                  cases e404
                  have HR404_0 := Aside0.mk hi404_0
                  have HC404_0 := Aside0.mk hl404_0
                  clear hi404_0 hl404_0
                  replace p404 := eq_true p404
                  replace q404 := eq_true q404
                  have p405 : 0 ≤ (0 : Int) := (by omega)
                  have q405 : 0 < ((rd_L3 l0 x7_1).length : Int) := of_decide_eq_true (by first | (with_reducible assumption) | assumption)
                  obtain ⟨ad405, e405, hx405_0⟩ := Kd.at_int HR404_0.out 0 p405 q405
                  cases e405
                  have qi405 : (0 < (rd_L3 l0 x7_1).length) = True := eq_true (by omega)
                  (try rw [show ((0 : Int)).toNat = 0 from rfl] at hx405_0)
                  (try rw [Addr.add_zero'] at hx405_0)
                  replace p405 := eq_true p405
                  replace q405 := eq_true q405
                  go_wp2_with (first | (go_at_call 47; (with_reducible refine (spec_l00Min.calls a1 a2 t406 _ A7.out).mono ?_); rintro e w' ⟨rfl, ⟨nd, rfl⟩⟩; (try first | exact ⟨rfl, _, World.drewN_drewN _ _ _⟩ | exact ⟨rfl, _, Eq.trans (World.drewN_drewN _ _ _) (congrArg (World.drewN _) (Nat.add_assoc _ _ _))⟩); have p407 : 0 ≤ (x7_1 : Int) := of_decide_eq_true (by first | (with_reducible assumption) | assumption); have q407 : x7_1 < (l0.length : Int) := of_decide_eq_true (by first | (with_reducible assumption) | assumption); obtain ⟨ad407, A407_0, c407_0, e407, hx407_0, hl407_0, hi407_0⟩ := at_L3 HR0.out x7_1 p407 q407; obtain rfl : ad404 = ad407 := (by injection e407); have HR407_0 := Aside0.mk hi407_0; have HC407_0 := Aside0.mk hl407_0; clear hi407_0 hl407_0; replace p407 := eq_true p407; replace q407 := eq_true q407; have ea_ := Option.some.inj (hx404_0.symm.trans hx407_0); injection ea_ with ea_ en_ ec_; subst ea_; subst ec_; clear en_; have p408 : 0 ≤ (1 : Int) := (by omega); have q408 : 1 < ((rd_L3 l0 x7_1).length : Int) := of_decide_eq_true (by first | (with_reducible assumption) | assumption); obtain ⟨ad408, e408, hx408_0⟩ := Kd.at_int HR407_0.out 1 p408 q408; cases e408; (try simp only [show (1 : Int).toNat = 1 from rfl, Nat.reduceMul, Nat.reduceEqDiff, Go.Addr.add, ↓reduceIte] at hx408_0); have qi408 : (1 < (rd_L3 l0 x7_1).length) = True := eq_true (by omega); (try rw [show ((1 : Int)).toNat = 1 from rfl] at hx408_0); replace p408 := eq_true p408; replace q408 := eq_true q408) | (go_at_call 46; (with_reducible refine (spec_l00Max.calls a1 a2 t409 _ A10.out).mono ?_); rintro e w' ⟨rfl, ⟨nd, rfl⟩⟩; (try first | exact ⟨rfl, _, World.drewN_drewN _ _ _⟩ | exact ⟨rfl, _, Eq.trans (World.drewN_drewN _ _ _) (congrArg (World.drewN _) (Nat.add_assoc _ _ _))⟩)))
                  repeat (go_quiet (first | (go_at_call 47; (with_reducible refine (spec_l00Min.calls a1 a2 t406 _ A7.out).mono ?_); rintro e w' ⟨rfl, ⟨nd, rfl⟩⟩; (try first | exact ⟨rfl, _, World.drewN_drewN _ _ _⟩ | exact ⟨rfl, _, Eq.trans (World.drewN_drewN _ _ _) (congrArg (World.drewN _) (Nat.add_assoc _ _ _))⟩); have p407 : 0 ≤ (x7_1 : Int) := of_decide_eq_true (by first | (with_reducible assumption) | assumption); have q407 : x7_1 < (l0.length : Int) := of_decide_eq_true (by first | (with_reducible assumption) | assumption); obtain ⟨ad407, A407_0, c407_0, e407, hx407_0, hl407_0, hi407_0⟩ := at_L3 HR0.out x7_1 p407 q407; obtain rfl : ad404 = ad407 := (by injection e407); have HR407_0 := Aside0.mk hi407_0; have HC407_0 := Aside0.mk hl407_0; clear hi407_0 hl407_0; replace p407 := eq_true p407; replace q407 := eq_true q407; have ea_ := Option.some.inj (hx404_0.symm.trans hx407_0); injection ea_ with ea_ en_ ec_; subst ea_; subst ec_; clear en_; have p408 : 0 ≤ (1 : Int) := (by omega); have q408 : 1 < ((rd_L3 l0 x7_1).length : Int) := of_decide_eq_true (by first | (with_reducible assumption) | assumption); obtain ⟨ad408, e408, hx408_0⟩ := Kd.at_int HR407_0.out 1 p408 q408; cases e408; (try simp only [show (1 : Int).toNat = 1 from rfl, Nat.reduceMul, Nat.reduceEqDiff, Go.Addr.add, ↓reduceIte] at hx408_0); have qi408 : (1 < (rd_L3 l0 x7_1).length) = True := eq_true (by omega); (try rw [show ((1 : Int)).toNat = 1 from rfl] at hx408_0); replace p408 := eq_true p408; replace q408 := eq_true q408) | (go_at_call 46; (with_reducible refine (spec_l00Max.calls a1 a2 t409 _ A10.out).mono ?_); rintro e w' ⟨rfl, ⟨nd, rfl⟩⟩; (try first | exact ⟨rfl, _, World.drewN_drewN _ _ _⟩ | exact ⟨rfl, _, Eq.trans (World.drewN_drewN _ _ _) (congrArg (World.drewN _) (Nat.add_assoc _ _ _))⟩))); try go_wp2_with (first | (go_at_call 47; (with_reducible refine (spec_l00Min.calls a1 a2 t406 _ A7.out).mono ?_); rintro e w' ⟨rfl, ⟨nd, rfl⟩⟩; (try first | exact ⟨rfl, _, World.drewN_drewN _ _ _⟩ | exact ⟨rfl, _, Eq.trans (World.drewN_drewN _ _ _) (congrArg (World.drewN _) (Nat.add_assoc _ _ _))⟩); have p407 : 0 ≤ (x7_1 : Int) := of_decide_eq_true (by first | (with_reducible assumption) | assumption); have q407 : x7_1 < (l0.length : Int) := of_decide_eq_true (by first | (with_reducible assumption) | assumption); obtain ⟨ad407, A407_0, c407_0, e407, hx407_0, hl407_0, hi407_0⟩ := at_L3 HR0.out x7_1 p407 q407; obtain rfl : ad404 = ad407 := (by injection e407); have HR407_0 := Aside0.mk hi407_0; have HC407_0 := Aside0.mk hl407_0; clear hi407_0 hl407_0; replace p407 := eq_true p407; replace q407 := eq_true q407; have ea_ := Option.some.inj (hx404_0.symm.trans hx407_0); injection ea_ with ea_ en_ ec_; subst ea_; subst ec_; clear en_; have p408 : 0 ≤ (1 : Int) := (by omega); have q408 : 1 < ((rd_L3 l0 x7_1).length : Int) := of_decide_eq_true (by first | (with_reducible assumption) | assumption); obtain ⟨ad408, e408, hx408_0⟩ := Kd.at_int HR407_0.out 1 p408 q408; cases e408; (try simp only [show (1 : Int).toNat = 1 from rfl, Nat.reduceMul, Nat.reduceEqDiff, Go.Addr.add, ↓reduceIte] at hx408_0); have qi408 : (1 < (rd_L3 l0 x7_1).length) = True := eq_true (by omega); (try rw [show ((1 : Int)).toNat = 1 from rfl] at hx408_0); replace p408 := eq_true p408; replace q408 := eq_true q408) | (go_at_call 46; (with_reducible refine (spec_l00Max.calls a1 a2 t409 _ A10.out).mono ?_); rintro e w' ⟨rfl, ⟨nd, rfl⟩⟩; (try first | exact ⟨rfl, _, World.drewN_drewN _ _ _⟩ | exact ⟨rfl, _, Eq.trans (World.drewN_drewN _ _ _) (congrArg (World.drewN _) (Nat.add_assoc _ _ _))⟩))))
                  go_ret
                  exact ⟨by first | rfl | (simp; done) | (simp [*]; done), by repeat (first | exact Drawn0.refl _ | apply Drawn0.step)⟩
                · rw [if_neg c11] at H
                  have c11b0 : ((rd (rd_L3 l0 x7_1) 1) == t409) = false := beq_eq_false_iff_ne.mpr c11
                  have c11b1 : ((rd (rd_L3 l0 x7_1) 1) != t409) = true := bne_iff_ne.mpr c11
                  have H' := Aside0.mk H
                  clear H
                  have p404 : 0 ≤ (x7_1 : Int) := of_decide_eq_true (by first | (with_reducible assumption) | assumption)
                  have q404 : x7_1 < (l0.length : Int) := of_decide_eq_true (by first | (with_reducible assumption) | assumption)
                  obtain ⟨ad404, A404_0, c404_0, e404, hx404_0, hl404_0, hi404_0⟩ := at_L3 HR0.out x7_1 p404 q404
                  cases e404
                  have HR404_0 := Aside0.mk hi404_0
                  have HC404_0 := Aside0.mk hl404_0
                  clear hi404_0 hl404_0
                  replace p404 := eq_true p404
                  replace q404 := eq_true q404
                  have p405 : 0 ≤ (0 : Int) := (by omega)
                  have q405 : 0 < ((rd_L3 l0 x7_1).length : Int) := of_decide_eq_true (by first | (with_reducible assumption) | assumption)
                  obtain ⟨ad405, e405, hx405_0⟩ := Kd.at_int HR404_0.out 0 p405 q405
                  cases e405
                  have qi405 : (0 < (rd_L3 l0 x7_1).length) = True := eq_true (by omega)
                  (try rw [show ((0 : Int)).toNat = 0 from rfl] at hx405_0)
                  (try rw [Addr.add_zero'] at hx405_0)
                  replace p405 := eq_true p405
                  replace q405 := eq_true q405
                  go_wp2_with (first | (go_at_call 47; (with_reducible refine (spec_l00Min.calls a1 a2 t406 _ A7.out).mono ?_); rintro e w' ⟨rfl, ⟨nd, rfl⟩⟩; (try first | exact ⟨rfl, _, World.drewN_drewN _ _ _⟩ | exact ⟨rfl, _, Eq.trans (World.drewN_drewN _ _ _) (congrArg (World.drewN _) (Nat.add_assoc _ _ _))⟩); have p407 : 0 ≤ (x7_1 : Int) := of_decide_eq_true (by first | (with_reducible assumption) | assumption); have q407 : x7_1 < (l0.length : Int) := of_decide_eq_true (by first | (with_reducible assumption) | assumption); obtain ⟨ad407, A407_0, c407_0, e407, hx407_0, hl407_0, hi407_0⟩ := at_L3 HR0.out x7_1 p407 q407; obtain rfl : ad404 = ad407 := (by injection e407); have HR407_0 := Aside0.mk hi407_0; have HC407_0 := Aside0.mk hl407_0; clear hi407_0 hl407_0; replace p407 := eq_true p407; replace q407 := eq_true q407; have ea_ := Option.some.inj (hx404_0.symm.trans hx407_0); injection ea_ with ea_ en_ ec_; subst ea_; subst ec_; clear en_; have p408 : 0 ≤ (1 : Int) := (by omega); have q408 : 1 < ((rd_L3 l0 x7_1).length : Int) := of_decide_eq_true (by first | (with_reducible assumption) | assumption); obtain ⟨ad408, e408, hx408_0⟩ := Kd.at_int HR407_0.out 1 p408 q408; cases e408; (try simp only [show (1 : Int).toNat = 1 from rfl, Nat.reduceMul, Nat.reduceEqDiff, Go.Addr.add, ↓reduceIte] at hx408_0); have qi408 : (1 < (rd_L3 l0 x7_1).length) = True := eq_true (by omega); (try rw [show ((1 : Int)).toNat = 1 from rfl] at hx408_0); replace p408 := eq_true p408; replace q408 := eq_true q408) | (go_at_call 46; (with_reducible refine (spec_l00Max.calls a1 a2 t409 _ A10.out).mono ?_); rintro e w' ⟨rfl, ⟨nd, rfl⟩⟩; (try first | exact ⟨rfl, _, World.drewN_drewN _ _ _⟩ | exact ⟨rfl, _, Eq.trans (World.drewN_drewN _ _ _) (congrArg (World.drewN _) (Nat.add_assoc _ _ _))⟩)))
                  repeat (go_quiet (first | (go_at_call 47; (with_reducible refine (spec_l00Min.calls a1 a2 t406 _ A7.out).mono ?_); rintro e w' ⟨rfl, ⟨nd, rfl⟩⟩; (try first | exact ⟨rfl, _, World.drewN_drewN _ _ _⟩ | exact ⟨rfl, _, Eq.trans (World.drewN_drewN _ _ _) (congrArg (World.drewN _) (Nat.add_assoc _ _ _))⟩); have p407 : 0 ≤ (x7_1 : Int) := of_decide_eq_true (by first | (with_reducible assumption) | assumption); have q407 : x7_1 < (l0.length : Int) := of_decide_eq_true (by first | (with_reducible assumption) | assumption); obtain ⟨ad407, A407_0, c407_0, e407, hx407_0, hl407_0, hi407_0⟩ := at_L3 HR0.out x7_1 p407 q407; obtain rfl : ad404 = ad407 := (by injection e407); have HR407_0 := Aside0.mk hi407_0; have HC407_0 := Aside0.mk hl407_0; clear hi407_0 hl407_0; replace p407 := eq_true p407; replace q407 := eq_true q407; have ea_ := Option.some.inj (hx404_0.symm.trans hx407_0); injection ea_ with ea_ en_ ec_; subst ea_; subst ec_; clear en_; have p408 : 0 ≤ (1 : Int) := (by omega); have q408 : 1 < ((rd_L3 l0 x7_1).length : Int) := of_decide_eq_true (by first | (with_reducible assumption) | assumption); obtain ⟨ad408, e408, hx408_0⟩ := Kd.at_int HR407_0.out 1 p408 q408; cases e408; (try simp only [show (1 : Int).toNat = 1 from rfl, Nat.reduceMul, Nat.reduceEqDiff, Go.Addr.add, ↓reduceIte] at hx408_0); have qi408 : (1 < (rd_L3 l0 x7_1).length) = True := eq_true (by omega); (try rw [show ((1 : Int)).toNat = 1 from rfl] at hx408_0); replace p408 := eq_true p408; replace q408 := eq_true q408) | (go_at_call 46; (with_reducible refine (spec_l00Max.calls a1 a2 t409 _ A10.out).mono ?_); rintro e w' ⟨rfl, ⟨nd, rfl⟩⟩; (try first | exact ⟨rfl, _, World.drewN_drewN _ _ _⟩ | exact ⟨rfl, _, Eq.trans (World.drewN_drewN _ _ _) (congrArg (World.drewN _) (Nat.add_assoc _ _ _))⟩))); try go_wp2_with (first | (go_at_call 47; (with_reducible refine (spec_l00Min.calls a1 a2 t406 _ A7.out).mono ?_); rintro e w' ⟨rfl, ⟨nd, rfl⟩⟩; (try first | exact ⟨rfl, _, World.drewN_drewN _ _ _⟩ | exact ⟨rfl, _, Eq.trans (World.drewN_drewN _ _ _) (congrArg (World.drewN _) (Nat.add_assoc _ _ _))⟩); have p407 : 0 ≤ (x7_1 : Int) := of_decide_eq_true (by first | (with_reducible assumption) | assumption); have q407 : x7_1 < (l0.length : Int) := of_decide_eq_true (by first | (with_reducible assumption) | assumption); obtain ⟨ad407, A407_0, c407_0, e407, hx407_0, hl407_0, hi407_0⟩ := at_L3 HR0.out x7_1 p407 q407; obtain rfl : ad404 = ad407 := (by injection e407); have HR407_0 := Aside0.mk hi407_0; have HC407_0 := Aside0.mk hl407_0; clear hi407_0 hl407_0; replace p407 := eq_true p407; replace q407 := eq_true q407; have ea_ := Option.some.inj (hx404_0.symm.trans hx407_0); injection ea_ with ea_ en_ ec_; subst ea_; subst ec_; clear en_; have p408 : 0 ≤ (1 : Int) := (by omega); have q408 : 1 < ((rd_L3 l0 x7_1).length : Int) := of_decide_eq_true (by first | (with_reducible assumption) | assumption); obtain ⟨ad408, e408, hx408_0⟩ := Kd.at_int HR407_0.out 1 p408 q408; cases e408; (try simp only [show (1 : Int).toNat = 1 from rfl, Nat.reduceMul, Nat.reduceEqDiff, Go.Addr.add, ↓reduceIte] at hx408_0); have qi408 : (1 < (rd_L3 l0 x7_1).length) = True := eq_true (by omega); (try rw [show ((1 : Int)).toNat = 1 from rfl] at hx408_0); replace p408 := eq_true p408; replace q408 := eq_true q408) | (go_at_call 46; (with_reducible refine (spec_l00Max.calls a1 a2 t409 _ A10.out).mono ?_); rintro e w' ⟨rfl, ⟨nd, rfl⟩⟩; (try first | exact ⟨rfl, _, World.drewN_drewN _ _ _⟩ | exact ⟨rfl, _, Eq.trans (World.drewN_drewN _ _ _) (congrArg (World.drewN _) (Nat.add_assoc _ _ _))⟩))))
                  go_roundg k1
                  case measure => have := HK1.out; omega
                  case rel => exact ⟨(wrap64 (x7_1 + 1)), (by first | rfl | (simp; done) | (simp [*]; done)), H', ⟨by have := HK1.out; omega⟩, by repeat (first | exact Drawn0.refl _ | apply Drawn0.step)⟩
              · rw [if_neg c9] at H
                exact absurd H (by simp)
            · rw [if_neg c8] at H
              have c8b0 : ((rd (rd_L3 l0 x7_1) 0) == t406) = false := beq_eq_false_iff_ne.mpr c8
              have c8b1 : ((rd (rd_L3 l0 x7_1) 0) != t406) = true := bne_iff_ne.mpr c8
              have H' := Aside0.mk H
              clear H
              have p404 : 0 ≤ (x7_1 : Int) := of_decide_eq_true (by first | (with_reducible assumption) | assumption)
              have q404 : x7_1 < (l0.length : Int) := of_decide_eq_true (by first | (with_reducible assumption) | assumption)
              obtain ⟨ad404, A404_0, c404_0, e404, hx404_0, hl404_0, hi404_0⟩ := at_L3 HR0.out x7_1 p404 q404
              cases e404
              have HR404_0 := Aside0.mk hi404_0
              have HC404_0 := Aside0.mk hl404_0
              clear hi404_0 hl404_0
              replace p404 := eq_true p404
              replace q404 := eq_true q404
              have p405 : 0 ≤ (0 : Int) := (by omega)
              have q405 : 0 < ((rd_L3 l0 x7_1).length : Int) := of_decide_eq_true (by first | (with_reducible assumption) | assumption)
              obtain ⟨ad405, e405, hx405_0⟩ := Kd.at_int HR404_0.out 0 p405 q405
              cases e405
              have qi405 : (0 < (rd_L3 l0 x7_1).length) = True := eq_true (by omega)
              (try rw [show ((0 : Int)).toNat = 0 from rfl] at hx405_0)
              (try rw [Addr.add_zero'] at hx405_0)
              replace p405 := eq_true p405
              replace q405 := eq_true q405
              go_wp2_with (first | (go_at_call 47; (with_reducible refine (spec_l00Min.calls a1 a2 t406 _ A7.out).mono ?_); rintro e w' ⟨rfl, ⟨nd, rfl⟩⟩; (try first | exact ⟨rfl, _, World.drewN_drewN _ _ _⟩ | exact ⟨rfl, _, Eq.trans (World.drewN_drewN _ _ _) (congrArg (World.drewN _) (Nat.add_assoc _ _ _))⟩)))
              repeat (go_quiet (first | (go_at_call 47; (with_reducible refine (spec_l00Min.calls a1 a2 t406 _ A7.out).mono ?_); rintro e w' ⟨rfl, ⟨nd, rfl⟩⟩; (try first | exact ⟨rfl, _, World.drewN_drewN _ _ _⟩ | exact ⟨rfl, _, Eq.trans (World.drewN_drewN _ _ _) (congrArg (World.drewN _) (Nat.add_assoc _ _ _))⟩))); try go_wp2_with (first | (go_at_call 47; (with_reducible refine (spec_l00Min.calls a1 a2 t406 _ A7.out).mono ?_); rintro e w' ⟨rfl, ⟨nd, rfl⟩⟩; (try first | exact ⟨rfl, _, World.drewN_drewN _ _ _⟩ | exact ⟨rfl, _, Eq.trans (World.drewN_drewN _ _ _) (congrArg (World.drewN _) (Nat.add_assoc _ _ _))⟩))))
              go_roundg k1
              case measure => have := HK1.out; omega
              case rel => exact ⟨(wrap64 (x7_1 + 1)), (by first | rfl | (simp; done) | (simp [*]; done)), H', ⟨by have := HK1.out; omega⟩, by repeat (first | exact Drawn0.refl _ | apply Drawn0.step)⟩
          · rw [if_neg c6] at H
            exact absurd H (by simp)
        · rw [if_neg c5] at H
          exact absurd H (by simp)
      · rw [if_neg c4] at H
        have c4b0 : decide (x7_1 < (l0.length : Int)) = false := decide_eq_false c4
        clear c4
        obtain rfl := Option.some.inj H
        go_wp2
        repeat (go_quiet (fail); try go_wp2)
        go_ret
        exact ⟨by first | rfl | (simp; done) | (simp [*]; done), by repeat (first | exact Drawn0.refl _ | apply Drawn0.step)⟩

end Go.Proofs.Ytnibobbfepdeiaa.PMesh
