-- written by a program of this session out of the translation (wip/gen/patch_print.py)
import Derived.Test.YtepilofcionekaaPMeshx0
namespace Go.Proofs.Ytepilofcionekaa.PMesh
open Go.RowKit Go.Proofs.YtepilofcionekaaW.PrintWords Go.Proofs.YtepilofcionekaaW.PrintLast Go.Proofs.YtepilofcionekaaW.PrintMore
attribute [local go_sem] max2_int min2_int max_two min_two max_three min_three max_four min_four   -- for this text's walks alone
set_option linter.unusedVariables false
set_option linter.unusedSimpArgs false

/-! ### spec_l02Goes: function 108 -/
def spec_l02Goes.f (l0 : List Int) (a1 : Int) (a2 : Int) : Option (Bool) := if 0 < (l0.length : Int) then (if (rd l0 0) = a1 then (if 1 < (l0.length : Int) then (if (rd l0 1) = a2 then (some true) else (if (rd l0 1) = a1 then (if 2 < (l0.length : Int) then (if (rd l0 2) = a2 then (some true) else (if (rd l0 2) = a1 then (some ((rd l0 0) == a2)) else (some false))) else (none)) else (if 2 < (l0.length : Int) then (if (rd l0 2) = a1 then (some ((rd l0 0) == a2)) else (some false)) else (none)))) else (none)) else (if 1 < (l0.length : Int) then (if (rd l0 1) = a1 then (if 2 < (l0.length : Int) then (if (rd l0 2) = a2 then (some true) else (if (rd l0 2) = a1 then (some ((rd l0 0) == a2)) else (some false))) else (none)) else (if 2 < (l0.length : Int) then (if (rd l0 2) = a1 then (some ((rd l0 0) == a2)) else (some false)) else (none))) else (none))) else (none)
set_option maxHeartbeats 8000000 in
set_option maxRecDepth 100000 in
theorem spec_l02Goes.calls (A0 : Option Addr) (c0 : Nat) (l0 : List Int) (a1 : Int) (a2 : Int) (r : Bool) (w : World) (hr0 : Kd.C (Kd.int .i64) w A0 l0.length l0) (hc0 : l0.length ≤ c0) (h : spec_l02Goes.f l0 a1 a2 = some r) :
    Calls Try.prog 108 #[.slice A0 l0.length c0, .int .i64 a1, .int .i64 a2] w fun e w' => e = .returned (.bool r) ∧ Drawn0 w w' := by
  have HR0 := Aside0.mk hr0
  have HC0 := Aside0.mk hc0
  clear hr0 hc0
  have H : (if 0 < (l0.length : Int) then (if (rd l0 0) = a1 then (if 1 < (l0.length : Int) then (if (rd l0 1) = a2 then (some true) else (if (rd l0 1) = a1 then (if 2 < (l0.length : Int) then (if (rd l0 2) = a2 then (some true) else (if (rd l0 2) = a1 then (some ((rd l0 0) == a2)) else (some false))) else (none)) else (if 2 < (l0.length : Int) then (if (rd l0 2) = a1 then (some ((rd l0 0) == a2)) else (some false)) else (none)))) else (none)) else (if 1 < (l0.length : Int) then (if (rd l0 1) = a1 then (if 2 < (l0.length : Int) then (if (rd l0 2) = a2 then (some true) else (if (rd l0 2) = a1 then (some ((rd l0 0) == a2)) else (some false))) else (none)) else (if 2 < (l0.length : Int) then (if (rd l0 2) = a1 then (some ((rd l0 0) == a2)) else (some false)) else (none))) else (none))) else (none)) = some r := h
  clear h
  by_cases c4 : 0 < (l0.length : Int)
  · rw [if_pos c4] at H
    have c4b0 : decide (0 < (l0.length : Int)) = true := decide_eq_true c4
    have c4b1 : decide (0 < l0.length) = true := decide_eq_true (by omega)
    clear c4
    by_cases c5 : (rd l0 0) = a1
    · rw [if_pos c5] at H
      have c5b0 : ((rd l0 0) == a1) = true := beq_iff_eq.mpr c5
      have c5b1 : ((rd l0 0) != a1) = false := bne_eq_false_iff_eq.mpr c5
      clear c5
      by_cases c6 : 1 < (l0.length : Int)
      · rw [if_pos c6] at H
        have c6b0 : decide (1 < (l0.length : Int)) = true := decide_eq_true c6
        have c6b1 : decide (1 < l0.length) = true := decide_eq_true (by omega)
        clear c6
        by_cases c7 : (rd l0 1) = a2
        · rw [if_pos c7] at H
          have c7b0 : ((rd l0 1) == a2) = true := beq_iff_eq.mpr c7
          have c7b1 : ((rd l0 1) != a2) = false := bne_eq_false_iff_eq.mpr c7
          clear c7
          obtain rfl := Option.some.inj H
          have p210 : 0 ≤ (0 : Int) := (by omega)
          have q210 : 0 < (l0.length : Int) := of_decide_eq_true (by first | (with_reducible assumption) | assumption)
          obtain ⟨ad210, e210, hx210_0⟩ := Kd.at_int HR0.out 0 p210 q210
          cases e210
          have qi210 : (0 < l0.length) = True := eq_true (by omega)
          (try rw [show ((0 : Int)).toNat = 0 from rfl] at hx210_0)
          (try rw [Addr.add_zero'] at hx210_0)
          replace p210 := eq_true p210
          replace q210 := eq_true q210
          have p211 : 0 ≤ (1 : Int) := (by omega)
          have q211 : 1 < (l0.length : Int) := of_decide_eq_true (by first | (with_reducible assumption) | assumption)
          obtain ⟨ad211, e211, hx211_0⟩ := Kd.at_int HR0.out 1 p211 q211
          obtain rfl : ad210 = ad211 := (by injection e211)
          (try simp only [show (1 : Int).toNat = 1 from rfl, Nat.reduceMul, Nat.reduceEqDiff, Go.Addr.add, ↓reduceIte] at hx211_0)
          have qi211 : (1 < l0.length) = True := eq_true (by omega)
          (try rw [show ((1 : Int)).toNat = 1 from rfl] at hx211_0)
          replace p211 := eq_true p211
          replace q211 := eq_true q211
          go_enter Try.func108, Try.ntmps108
          go_wp2
          go_ret
          exact ⟨by first | rfl | (simp; done) | (simp [*]; done), by repeat (first | exact Drawn0.refl _ | apply Drawn0.step)⟩
        · rw [if_neg c7] at H
          have c7b0 : ((rd l0 1) == a2) = false := beq_eq_false_iff_ne.mpr c7
          have c7b1 : ((rd l0 1) != a2) = true := bne_iff_ne.mpr c7
          by_cases c8 : (rd l0 1) = a1
          · rw [if_pos c8] at H
            have c8b0 : ((rd l0 1) == a1) = true := beq_iff_eq.mpr c8
            have c8b1 : ((rd l0 1) != a1) = false := bne_eq_false_iff_eq.mpr c8
            clear c8
            by_cases c9 : 2 < (l0.length : Int)
            · rw [if_pos c9] at H
              have c9b0 : decide (2 < (l0.length : Int)) = true := decide_eq_true c9
              have c9b1 : decide (2 < l0.length) = true := decide_eq_true (by omega)
              clear c9
              by_cases c10 : (rd l0 2) = a2
              · rw [if_pos c10] at H
                have c10b0 : ((rd l0 2) == a2) = true := beq_iff_eq.mpr c10
                have c10b1 : ((rd l0 2) != a2) = false := bne_eq_false_iff_eq.mpr c10
                clear c10
                obtain rfl := Option.some.inj H
                have p210 : 0 ≤ (0 : Int) := (by omega)
                have q210 : 0 < (l0.length : Int) := of_decide_eq_true (by first | (with_reducible assumption) | assumption)
                obtain ⟨ad210, e210, hx210_0⟩ := Kd.at_int HR0.out 0 p210 q210
                cases e210
                have qi210 : (0 < l0.length) = True := eq_true (by omega)
                (try rw [show ((0 : Int)).toNat = 0 from rfl] at hx210_0)
                (try rw [Addr.add_zero'] at hx210_0)
                replace p210 := eq_true p210
                replace q210 := eq_true q210
                have p211 : 0 ≤ (1 : Int) := (by omega)
                have q211 : 1 < (l0.length : Int) := of_decide_eq_true (by first | (with_reducible assumption) | assumption)
                obtain ⟨ad211, e211, hx211_0⟩ := Kd.at_int HR0.out 1 p211 q211
                obtain rfl : ad210 = ad211 := (by injection e211)
                (try simp only [show (1 : Int).toNat = 1 from rfl, Nat.reduceMul, Nat.reduceEqDiff, Go.Addr.add, ↓reduceIte] at hx211_0)
                have qi211 : (1 < l0.length) = True := eq_true (by omega)
                (try rw [show ((1 : Int)).toNat = 1 from rfl] at hx211_0)
                replace p211 := eq_true p211
                replace q211 := eq_true q211
                have p212 : 0 ≤ (1 : Int) := (by omega)
                have q212 : 1 < (l0.length : Int) := of_decide_eq_true (by first | (with_reducible assumption) | assumption)
                obtain ⟨ad212, e212, hx212_0⟩ := Kd.at_int HR0.out 1 p212 q212
                obtain rfl : ad210 = ad212 := (by injection e212)
                (try simp only [show (1 : Int).toNat = 1 from rfl, Nat.reduceMul, Nat.reduceEqDiff, Go.Addr.add, ↓reduceIte] at hx212_0)
                have qi212 : (1 < l0.length) = True := eq_true (by omega)
                (try rw [show ((1 : Int)).toNat = 1 from rfl] at hx212_0)
                replace p212 := eq_true p212
                replace q212 := eq_true q212
                have p213 : 0 ≤ (2 : Int) := (by omega)
                have q213 : 2 < (l0.length : Int) := of_decide_eq_true (by first | (with_reducible assumption) | assumption)
                obtain ⟨ad213, e213, hx213_0⟩ := Kd.at_int HR0.out 2 p213 q213
                obtain rfl : ad210 = ad213 := (by injection e213)
                (try simp only [show (2 : Int).toNat = 2 from rfl, Nat.reduceMul, Nat.reduceEqDiff, Go.Addr.add, ↓reduceIte] at hx213_0)
                have qi213 : (2 < l0.length) = True := eq_true (by omega)
                (try rw [show ((2 : Int)).toNat = 2 from rfl] at hx213_0)
                replace p213 := eq_true p213
                replace q213 := eq_true q213
                go_enter Try.func108, Try.ntmps108
                go_wp2
                go_ret
                exact ⟨by first | rfl | (simp; done) | (simp [*]; done), by repeat (first | exact Drawn0.refl _ | apply Drawn0.step)⟩
              · rw [if_neg c10] at H
                have c10b0 : ((rd l0 2) == a2) = false := beq_eq_false_iff_ne.mpr c10
                have c10b1 : ((rd l0 2) != a2) = true := bne_iff_ne.mpr c10
                by_cases c11 : (rd l0 2) = a1
                · rw [if_pos c11] at H
                  have c11b0 : ((rd l0 2) == a1) = true := beq_iff_eq.mpr c11
                  have c11b1 : ((rd l0 2) != a1) = false := bne_eq_false_iff_eq.mpr c11
                  clear c11
                  obtain rfl := Option.some.inj H
                  have p210 : 0 ≤ (0 : Int) := (by omega)
                  have q210 : 0 < (l0.length : Int) := of_decide_eq_true (by first | (with_reducible assumption) | assumption)
                  obtain ⟨ad210, e210, hx210_0⟩ := Kd.at_int HR0.out 0 p210 q210
                  cases e210
                  have qi210 : (0 < l0.length) = True := eq_true (by omega)
                  (try rw [show ((0 : Int)).toNat = 0 from rfl] at hx210_0)
                  (try rw [Addr.add_zero'] at hx210_0)
                  replace p210 := eq_true p210
                  replace q210 := eq_true q210
                  have p211 : 0 ≤ (1 : Int) := (by omega)
                  have q211 : 1 < (l0.length : Int) := of_decide_eq_true (by first | (with_reducible assumption) | assumption)
                  obtain ⟨ad211, e211, hx211_0⟩ := Kd.at_int HR0.out 1 p211 q211
                  obtain rfl : ad210 = ad211 := (by injection e211)
                  (try simp only [show (1 : Int).toNat = 1 from rfl, Nat.reduceMul, Nat.reduceEqDiff, Go.Addr.add, ↓reduceIte] at hx211_0)
                  have qi211 : (1 < l0.length) = True := eq_true (by omega)
                  (try rw [show ((1 : Int)).toNat = 1 from rfl] at hx211_0)
                  replace p211 := eq_true p211
                  replace q211 := eq_true q211
                  have p212 : 0 ≤ (1 : Int) := (by omega)
                  have q212 : 1 < (l0.length : Int) := of_decide_eq_true (by first | (with_reducible assumption) | assumption)
                  obtain ⟨ad212, e212, hx212_0⟩ := Kd.at_int HR0.out 1 p212 q212
                  obtain rfl : ad210 = ad212 := (by injection e212)
                  (try simp only [show (1 : Int).toNat = 1 from rfl, Nat.reduceMul, Nat.reduceEqDiff, Go.Addr.add, ↓reduceIte] at hx212_0)
                  have qi212 : (1 < l0.length) = True := eq_true (by omega)
                  (try rw [show ((1 : Int)).toNat = 1 from rfl] at hx212_0)
                  replace p212 := eq_true p212
                  replace q212 := eq_true q212
                  have p213 : 0 ≤ (2 : Int) := (by omega)
                  have q213 : 2 < (l0.length : Int) := of_decide_eq_true (by first | (with_reducible assumption) | assumption)
                  obtain ⟨ad213, e213, hx213_0⟩ := Kd.at_int HR0.out 2 p213 q213
                  obtain rfl : ad210 = ad213 := (by injection e213)
                  (try simp only [show (2 : Int).toNat = 2 from rfl, Nat.reduceMul, Nat.reduceEqDiff, Go.Addr.add, ↓reduceIte] at hx213_0)
                  have qi213 : (2 < l0.length) = True := eq_true (by omega)
                  (try rw [show ((2 : Int)).toNat = 2 from rfl] at hx213_0)
                  replace p213 := eq_true p213
                  replace q213 := eq_true q213
                  have p214 : 0 ≤ (2 : Int) := (by omega)
                  have q214 : 2 < (l0.length : Int) := of_decide_eq_true (by first | (with_reducible assumption) | assumption)
                  obtain ⟨ad214, e214, hx214_0⟩ := Kd.at_int HR0.out 2 p214 q214
                  obtain rfl : ad210 = ad214 := (by injection e214)
                  (try simp only [show (2 : Int).toNat = 2 from rfl, Nat.reduceMul, Nat.reduceEqDiff, Go.Addr.add, ↓reduceIte] at hx214_0)
                  have qi214 : (2 < l0.length) = True := eq_true (by omega)
                  (try rw [show ((2 : Int)).toNat = 2 from rfl] at hx214_0)
                  replace p214 := eq_true p214
                  replace q214 := eq_true q214
                  have p215 : 0 ≤ (0 : Int) := (by omega)
                  have q215 : 0 < (l0.length : Int) := of_decide_eq_true (by first | (with_reducible assumption) | assumption)
                  obtain ⟨ad215, e215, hx215_0⟩ := Kd.at_int HR0.out 0 p215 q215
                  obtain rfl : ad210 = ad215 := (by injection e215)
                  have qi215 : (0 < l0.length) = True := eq_true (by omega)
                  (try rw [show ((0 : Int)).toNat = 0 from rfl] at hx215_0)
                  (try rw [Addr.add_zero'] at hx215_0)
                  replace p215 := eq_true p215
                  replace q215 := eq_true q215
                  go_enter Try.func108, Try.ntmps108
                  go_wp2
                  go_ret
                  exact ⟨by first | rfl | (simp; done) | (simp [*]; done), by repeat (first | exact Drawn0.refl _ | apply Drawn0.step)⟩
                · rw [if_neg c11] at H
                  have c11b0 : ((rd l0 2) == a1) = false := beq_eq_false_iff_ne.mpr c11
                  have c11b1 : ((rd l0 2) != a1) = true := bne_iff_ne.mpr c11
                  obtain rfl := Option.some.inj H
                  have p210 : 0 ≤ (0 : Int) := (by omega)
                  have q210 : 0 < (l0.length : Int) := of_decide_eq_true (by first | (with_reducible assumption) | assumption)
                  obtain ⟨ad210, e210, hx210_0⟩ := Kd.at_int HR0.out 0 p210 q210
                  cases e210
                  have qi210 : (0 < l0.length) = True := eq_true (by omega)
                  (try rw [show ((0 : Int)).toNat = 0 from rfl] at hx210_0)
                  (try rw [Addr.add_zero'] at hx210_0)
                  replace p210 := eq_true p210
                  replace q210 := eq_true q210
                  have p211 : 0 ≤ (1 : Int) := (by omega)
                  have q211 : 1 < (l0.length : Int) := of_decide_eq_true (by first | (with_reducible assumption) | assumption)
                  obtain ⟨ad211, e211, hx211_0⟩ := Kd.at_int HR0.out 1 p211 q211
                  obtain rfl : ad210 = ad211 := (by injection e211)
                  (try simp only [show (1 : Int).toNat = 1 from rfl, Nat.reduceMul, Nat.reduceEqDiff, Go.Addr.add, ↓reduceIte] at hx211_0)
                  have qi211 : (1 < l0.length) = True := eq_true (by omega)
                  (try rw [show ((1 : Int)).toNat = 1 from rfl] at hx211_0)
                  replace p211 := eq_true p211
                  replace q211 := eq_true q211
                  have p212 : 0 ≤ (1 : Int) := (by omega)
                  have q212 : 1 < (l0.length : Int) := of_decide_eq_true (by first | (with_reducible assumption) | assumption)
                  obtain ⟨ad212, e212, hx212_0⟩ := Kd.at_int HR0.out 1 p212 q212
                  obtain rfl : ad210 = ad212 := (by injection e212)
                  (try simp only [show (1 : Int).toNat = 1 from rfl, Nat.reduceMul, Nat.reduceEqDiff, Go.Addr.add, ↓reduceIte] at hx212_0)
                  have qi212 : (1 < l0.length) = True := eq_true (by omega)
                  (try rw [show ((1 : Int)).toNat = 1 from rfl] at hx212_0)
                  replace p212 := eq_true p212
                  replace q212 := eq_true q212
                  have p213 : 0 ≤ (2 : Int) := (by omega)
                  have q213 : 2 < (l0.length : Int) := of_decide_eq_true (by first | (with_reducible assumption) | assumption)
                  obtain ⟨ad213, e213, hx213_0⟩ := Kd.at_int HR0.out 2 p213 q213
                  obtain rfl : ad210 = ad213 := (by injection e213)
                  (try simp only [show (2 : Int).toNat = 2 from rfl, Nat.reduceMul, Nat.reduceEqDiff, Go.Addr.add, ↓reduceIte] at hx213_0)
                  have qi213 : (2 < l0.length) = True := eq_true (by omega)
                  (try rw [show ((2 : Int)).toNat = 2 from rfl] at hx213_0)
                  replace p213 := eq_true p213
                  replace q213 := eq_true q213
                  have p214 : 0 ≤ (2 : Int) := (by omega)
                  have q214 : 2 < (l0.length : Int) := of_decide_eq_true (by first | (with_reducible assumption) | assumption)
                  obtain ⟨ad214, e214, hx214_0⟩ := Kd.at_int HR0.out 2 p214 q214
                  obtain rfl : ad210 = ad214 := (by injection e214)
                  (try simp only [show (2 : Int).toNat = 2 from rfl, Nat.reduceMul, Nat.reduceEqDiff, Go.Addr.add, ↓reduceIte] at hx214_0)
                  have qi214 : (2 < l0.length) = True := eq_true (by omega)
                  (try rw [show ((2 : Int)).toNat = 2 from rfl] at hx214_0)
                  replace p214 := eq_true p214
                  replace q214 := eq_true q214
                  go_enter Try.func108, Try.ntmps108
                  go_wp2
                  go_ret
                  exact ⟨by first | rfl | (simp; done) | (simp [*]; done), by repeat (first | exact Drawn0.refl _ | apply Drawn0.step)⟩
            · rw [if_neg c9] at H
              exact absurd H (by simp)
          · rw [if_neg c8] at H
            have c8b0 : ((rd l0 1) == a1) = false := beq_eq_false_iff_ne.mpr c8
            have c8b1 : ((rd l0 1) != a1) = true := bne_iff_ne.mpr c8
            by_cases c12 : 2 < (l0.length : Int)
            · rw [if_pos c12] at H
              have c12b0 : decide (2 < (l0.length : Int)) = true := decide_eq_true c12
              have c12b1 : decide (2 < l0.length) = true := decide_eq_true (by omega)
              clear c12
              by_cases c13 : (rd l0 2) = a1
              · rw [if_pos c13] at H
                have c13b0 : ((rd l0 2) == a1) = true := beq_iff_eq.mpr c13
                have c13b1 : ((rd l0 2) != a1) = false := bne_eq_false_iff_eq.mpr c13
                clear c13
                obtain rfl := Option.some.inj H
                have p210 : 0 ≤ (0 : Int) := (by omega)
                have q210 : 0 < (l0.length : Int) := of_decide_eq_true (by first | (with_reducible assumption) | assumption)
                obtain ⟨ad210, e210, hx210_0⟩ := Kd.at_int HR0.out 0 p210 q210
                cases e210
                have qi210 : (0 < l0.length) = True := eq_true (by omega)
                (try rw [show ((0 : Int)).toNat = 0 from rfl] at hx210_0)
                (try rw [Addr.add_zero'] at hx210_0)
                replace p210 := eq_true p210
                replace q210 := eq_true q210
                have p211 : 0 ≤ (1 : Int) := (by omega)
                have q211 : 1 < (l0.length : Int) := of_decide_eq_true (by first | (with_reducible assumption) | assumption)
                obtain ⟨ad211, e211, hx211_0⟩ := Kd.at_int HR0.out 1 p211 q211
                obtain rfl : ad210 = ad211 := (by injection e211)
                (try simp only [show (1 : Int).toNat = 1 from rfl, Nat.reduceMul, Nat.reduceEqDiff, Go.Addr.add, ↓reduceIte] at hx211_0)
                have qi211 : (1 < l0.length) = True := eq_true (by omega)
                (try rw [show ((1 : Int)).toNat = 1 from rfl] at hx211_0)
                replace p211 := eq_true p211
                replace q211 := eq_true q211
                have p212 : 0 ≤ (1 : Int) := (by omega)
                have q212 : 1 < (l0.length : Int) := of_decide_eq_true (by first | (with_reducible assumption) | assumption)
                obtain ⟨ad212, e212, hx212_0⟩ := Kd.at_int HR0.out 1 p212 q212
                obtain rfl : ad210 = ad212 := (by injection e212)
                (try simp only [show (1 : Int).toNat = 1 from rfl, Nat.reduceMul, Nat.reduceEqDiff, Go.Addr.add, ↓reduceIte] at hx212_0)
                have qi212 : (1 < l0.length) = True := eq_true (by omega)
                (try rw [show ((1 : Int)).toNat = 1 from rfl] at hx212_0)
                replace p212 := eq_true p212
                replace q212 := eq_true q212
                have p216 : 0 ≤ (2 : Int) := (by omega)
                have q216 : 2 < (l0.length : Int) := of_decide_eq_true (by first | (with_reducible assumption) | assumption)
                obtain ⟨ad216, e216, hx216_0⟩ := Kd.at_int HR0.out 2 p216 q216
                obtain rfl : ad210 = ad216 := (by injection e216)
                (try simp only [show (2 : Int).toNat = 2 from rfl, Nat.reduceMul, Nat.reduceEqDiff, Go.Addr.add, ↓reduceIte] at hx216_0)
                have qi216 : (2 < l0.length) = True := eq_true (by omega)
                (try rw [show ((2 : Int)).toNat = 2 from rfl] at hx216_0)
                replace p216 := eq_true p216
                replace q216 := eq_true q216
                have p217 : 0 ≤ (0 : Int) := (by omega)
                have q217 : 0 < (l0.length : Int) := of_decide_eq_true (by first | (with_reducible assumption) | assumption)
                obtain ⟨ad217, e217, hx217_0⟩ := Kd.at_int HR0.out 0 p217 q217
                obtain rfl : ad210 = ad217 := (by injection e217)
                have qi217 : (0 < l0.length) = True := eq_true (by omega)
                (try rw [show ((0 : Int)).toNat = 0 from rfl] at hx217_0)
                (try rw [Addr.add_zero'] at hx217_0)
                replace p217 := eq_true p217
                replace q217 := eq_true q217
                go_enter Try.func108, Try.ntmps108
                go_wp2
                go_ret
                exact ⟨by first | rfl | (simp; done) | (simp [*]; done), by repeat (first | exact Drawn0.refl _ | apply Drawn0.step)⟩
              · rw [if_neg c13] at H
                have c13b0 : ((rd l0 2) == a1) = false := beq_eq_false_iff_ne.mpr c13
                have c13b1 : ((rd l0 2) != a1) = true := bne_iff_ne.mpr c13
                obtain rfl := Option.some.inj H
                have p210 : 0 ≤ (0 : Int) := (by omega)
                have q210 : 0 < (l0.length : Int) := of_decide_eq_true (by first | (with_reducible assumption) | assumption)
                obtain ⟨ad210, e210, hx210_0⟩ := Kd.at_int HR0.out 0 p210 q210
                cases e210
                have qi210 : (0 < l0.length) = True := eq_true (by omega)
                (try rw [show ((0 : Int)).toNat = 0 from rfl] at hx210_0)
                (try rw [Addr.add_zero'] at hx210_0)
                replace p210 := eq_true p210
                replace q210 := eq_true q210
                have p211 : 0 ≤ (1 : Int) := (by omega)
                have q211 : 1 < (l0.length : Int) := of_decide_eq_true (by first | (with_reducible assumption) | assumption)
                obtain ⟨ad211, e211, hx211_0⟩ := Kd.at_int HR0.out 1 p211 q211
                obtain rfl : ad210 = ad211 := (by injection e211)
                (try simp only [show (1 : Int).toNat = 1 from rfl, Nat.reduceMul, Nat.reduceEqDiff, Go.Addr.add, ↓reduceIte] at hx211_0)
                have qi211 : (1 < l0.length) = True := eq_true (by omega)
                (try rw [show ((1 : Int)).toNat = 1 from rfl] at hx211_0)
                replace p211 := eq_true p211
                replace q211 := eq_true q211
                have p212 : 0 ≤ (1 : Int) := (by omega)
                have q212 : 1 < (l0.length : Int) := of_decide_eq_true (by first | (with_reducible assumption) | assumption)
                obtain ⟨ad212, e212, hx212_0⟩ := Kd.at_int HR0.out 1 p212 q212
                obtain rfl : ad210 = ad212 := (by injection e212)
                (try simp only [show (1 : Int).toNat = 1 from rfl, Nat.reduceMul, Nat.reduceEqDiff, Go.Addr.add, ↓reduceIte] at hx212_0)
                have qi212 : (1 < l0.length) = True := eq_true (by omega)
                (try rw [show ((1 : Int)).toNat = 1 from rfl] at hx212_0)
                replace p212 := eq_true p212
                replace q212 := eq_true q212
                have p216 : 0 ≤ (2 : Int) := (by omega)
                have q216 : 2 < (l0.length : Int) := of_decide_eq_true (by first | (with_reducible assumption) | assumption)
                obtain ⟨ad216, e216, hx216_0⟩ := Kd.at_int HR0.out 2 p216 q216
                obtain rfl : ad210 = ad216 := (by injection e216)
                (try simp only [show (2 : Int).toNat = 2 from rfl, Nat.reduceMul, Nat.reduceEqDiff, Go.Addr.add, ↓reduceIte] at hx216_0)
                have qi216 : (2 < l0.length) = True := eq_true (by omega)
                (try rw [show ((2 : Int)).toNat = 2 from rfl] at hx216_0)
                replace p216 := eq_true p216
                replace q216 := eq_true q216
                go_enter Try.func108, Try.ntmps108
                go_wp2
                go_ret
                exact ⟨by first | rfl | (simp; done) | (simp [*]; done), by repeat (first | exact Drawn0.refl _ | apply Drawn0.step)⟩
            · rw [if_neg c12] at H
              exact absurd H (by simp)
      · rw [if_neg c6] at H
        exact absurd H (by simp)
    · rw [if_neg c5] at H
      have c5b0 : ((rd l0 0) == a1) = false := beq_eq_false_iff_ne.mpr c5
      have c5b1 : ((rd l0 0) != a1) = true := bne_iff_ne.mpr c5
      by_cases c14 : 1 < (l0.length : Int)
      · rw [if_pos c14] at H
        have c14b0 : decide (1 < (l0.length : Int)) = true := decide_eq_true c14
        have c14b1 : decide (1 < l0.length) = true := decide_eq_true (by omega)
        clear c14
        by_cases c15 : (rd l0 1) = a1
        · rw [if_pos c15] at H
          have c15b0 : ((rd l0 1) == a1) = true := beq_iff_eq.mpr c15
          have c15b1 : ((rd l0 1) != a1) = false := bne_eq_false_iff_eq.mpr c15
          clear c15
          by_cases c16 : 2 < (l0.length : Int)
          · rw [if_pos c16] at H
            have c16b0 : decide (2 < (l0.length : Int)) = true := decide_eq_true c16
            have c16b1 : decide (2 < l0.length) = true := decide_eq_true (by omega)
            clear c16
            by_cases c17 : (rd l0 2) = a2
            · rw [if_pos c17] at H
              have c17b0 : ((rd l0 2) == a2) = true := beq_iff_eq.mpr c17
              have c17b1 : ((rd l0 2) != a2) = false := bne_eq_false_iff_eq.mpr c17
              clear c17
              obtain rfl := Option.some.inj H
              have p210 : 0 ≤ (0 : Int) := (by omega)
              have q210 : 0 < (l0.length : Int) := of_decide_eq_true (by first | (with_reducible assumption) | assumption)
              obtain ⟨ad210, e210, hx210_0⟩ := Kd.at_int HR0.out 0 p210 q210
              cases e210
              have qi210 : (0 < l0.length) = True := eq_true (by omega)
              (try rw [show ((0 : Int)).toNat = 0 from rfl] at hx210_0)
              (try rw [Addr.add_zero'] at hx210_0)
              replace p210 := eq_true p210
              replace q210 := eq_true q210
              have p218 : 0 ≤ (1 : Int) := (by omega)
              have q218 : 1 < (l0.length : Int) := of_decide_eq_true (by first | (with_reducible assumption) | assumption)
              obtain ⟨ad218, e218, hx218_0⟩ := Kd.at_int HR0.out 1 p218 q218
              obtain rfl : ad210 = ad218 := (by injection e218)
              (try simp only [show (1 : Int).toNat = 1 from rfl, Nat.reduceMul, Nat.reduceEqDiff, Go.Addr.add, ↓reduceIte] at hx218_0)
              have qi218 : (1 < l0.length) = True := eq_true (by omega)
              (try rw [show ((1 : Int)).toNat = 1 from rfl] at hx218_0)
              replace p218 := eq_true p218
              replace q218 := eq_true q218
              have p219 : 0 ≤ (2 : Int) := (by omega)
              have q219 : 2 < (l0.length : Int) := of_decide_eq_true (by first | (with_reducible assumption) | assumption)
              obtain ⟨ad219, e219, hx219_0⟩ := Kd.at_int HR0.out 2 p219 q219
              obtain rfl : ad210 = ad219 := (by injection e219)
              (try simp only [show (2 : Int).toNat = 2 from rfl, Nat.reduceMul, Nat.reduceEqDiff, Go.Addr.add, ↓reduceIte] at hx219_0)
              have qi219 : (2 < l0.length) = True := eq_true (by omega)
              (try rw [show ((2 : Int)).toNat = 2 from rfl] at hx219_0)
              replace p219 := eq_true p219
              replace q219 := eq_true q219
              go_enter Try.func108, Try.ntmps108
              go_wp2
              go_ret
              exact ⟨by first | rfl | (simp; done) | (simp [*]; done), by repeat (first | exact Drawn0.refl _ | apply Drawn0.step)⟩
            · rw [if_neg c17] at H
              have c17b0 : ((rd l0 2) == a2) = false := beq_eq_false_iff_ne.mpr c17
              have c17b1 : ((rd l0 2) != a2) = true := bne_iff_ne.mpr c17
              by_cases c18 : (rd l0 2) = a1
              · rw [if_pos c18] at H
                have c18b0 : ((rd l0 2) == a1) = true := beq_iff_eq.mpr c18
                have c18b1 : ((rd l0 2) != a1) = false := bne_eq_false_iff_eq.mpr c18
                clear c18
                obtain rfl := Option.some.inj H
                have p210 : 0 ≤ (0 : Int) := (by omega)
                have q210 : 0 < (l0.length : Int) := of_decide_eq_true (by first | (with_reducible assumption) | assumption)
                obtain ⟨ad210, e210, hx210_0⟩ := Kd.at_int HR0.out 0 p210 q210
                cases e210
                have qi210 : (0 < l0.length) = True := eq_true (by omega)
                (try rw [show ((0 : Int)).toNat = 0 from rfl] at hx210_0)
                (try rw [Addr.add_zero'] at hx210_0)
                replace p210 := eq_true p210
                replace q210 := eq_true q210
                have p218 : 0 ≤ (1 : Int) := (by omega)
                have q218 : 1 < (l0.length : Int) := of_decide_eq_true (by first | (with_reducible assumption) | assumption)
                obtain ⟨ad218, e218, hx218_0⟩ := Kd.at_int HR0.out 1 p218 q218
                obtain rfl : ad210 = ad218 := (by injection e218)
                (try simp only [show (1 : Int).toNat = 1 from rfl, Nat.reduceMul, Nat.reduceEqDiff, Go.Addr.add, ↓reduceIte] at hx218_0)
                have qi218 : (1 < l0.length) = True := eq_true (by omega)
                (try rw [show ((1 : Int)).toNat = 1 from rfl] at hx218_0)
                replace p218 := eq_true p218
                replace q218 := eq_true q218
                have p219 : 0 ≤ (2 : Int) := (by omega)
                have q219 : 2 < (l0.length : Int) := of_decide_eq_true (by first | (with_reducible assumption) | assumption)
                obtain ⟨ad219, e219, hx219_0⟩ := Kd.at_int HR0.out 2 p219 q219
                obtain rfl : ad210 = ad219 := (by injection e219)
                (try simp only [show (2 : Int).toNat = 2 from rfl, Nat.reduceMul, Nat.reduceEqDiff, Go.Addr.add, ↓reduceIte] at hx219_0)
                have qi219 : (2 < l0.length) = True := eq_true (by omega)
                (try rw [show ((2 : Int)).toNat = 2 from rfl] at hx219_0)
                replace p219 := eq_true p219
                replace q219 := eq_true q219
                have p220 : 0 ≤ (2 : Int) := (by omega)
                have q220 : 2 < (l0.length : Int) := of_decide_eq_true (by first | (with_reducible assumption) | assumption)
                obtain ⟨ad220, e220, hx220_0⟩ := Kd.at_int HR0.out 2 p220 q220
                obtain rfl : ad210 = ad220 := (by injection e220)
                (try simp only [show (2 : Int).toNat = 2 from rfl, Nat.reduceMul, Nat.reduceEqDiff, Go.Addr.add, ↓reduceIte] at hx220_0)
                have qi220 : (2 < l0.length) = True := eq_true (by omega)
                (try rw [show ((2 : Int)).toNat = 2 from rfl] at hx220_0)
                replace p220 := eq_true p220
                replace q220 := eq_true q220
                have p221 : 0 ≤ (0 : Int) := (by omega)
                have q221 : 0 < (l0.length : Int) := of_decide_eq_true (by first | (with_reducible assumption) | assumption)
                obtain ⟨ad221, e221, hx221_0⟩ := Kd.at_int HR0.out 0 p221 q221
                obtain rfl : ad210 = ad221 := (by injection e221)
                have qi221 : (0 < l0.length) = True := eq_true (by omega)
                (try rw [show ((0 : Int)).toNat = 0 from rfl] at hx221_0)
                (try rw [Addr.add_zero'] at hx221_0)
                replace p221 := eq_true p221
                replace q221 := eq_true q221
                go_enter Try.func108, Try.ntmps108
                go_wp2
                go_ret
                exact ⟨by first | rfl | (simp; done) | (simp [*]; done), by repeat (first | exact Drawn0.refl _ | apply Drawn0.step)⟩
              · rw [if_neg c18] at H
                have c18b0 : ((rd l0 2) == a1) = false := beq_eq_false_iff_ne.mpr c18
                have c18b1 : ((rd l0 2) != a1) = true := bne_iff_ne.mpr c18
                obtain rfl := Option.some.inj H
                have p210 : 0 ≤ (0 : Int) := (by omega)
                have q210 : 0 < (l0.length : Int) := of_decide_eq_true (by first | (with_reducible assumption) | assumption)
                obtain ⟨ad210, e210, hx210_0⟩ := Kd.at_int HR0.out 0 p210 q210
                cases e210
                have qi210 : (0 < l0.length) = True := eq_true (by omega)
                (try rw [show ((0 : Int)).toNat = 0 from rfl] at hx210_0)
                (try rw [Addr.add_zero'] at hx210_0)
                replace p210 := eq_true p210
                replace q210 := eq_true q210
                have p218 : 0 ≤ (1 : Int) := (by omega)
                have q218 : 1 < (l0.length : Int) := of_decide_eq_true (by first | (with_reducible assumption) | assumption)
                obtain ⟨ad218, e218, hx218_0⟩ := Kd.at_int HR0.out 1 p218 q218
                obtain rfl : ad210 = ad218 := (by injection e218)
                (try simp only [show (1 : Int).toNat = 1 from rfl, Nat.reduceMul, Nat.reduceEqDiff, Go.Addr.add, ↓reduceIte] at hx218_0)
                have qi218 : (1 < l0.length) = True := eq_true (by omega)
                (try rw [show ((1 : Int)).toNat = 1 from rfl] at hx218_0)
                replace p218 := eq_true p218
                replace q218 := eq_true q218
                have p219 : 0 ≤ (2 : Int) := (by omega)
                have q219 : 2 < (l0.length : Int) := of_decide_eq_true (by first | (with_reducible assumption) | assumption)
                obtain ⟨ad219, e219, hx219_0⟩ := Kd.at_int HR0.out 2 p219 q219
                obtain rfl : ad210 = ad219 := (by injection e219)
                (try simp only [show (2 : Int).toNat = 2 from rfl, Nat.reduceMul, Nat.reduceEqDiff, Go.Addr.add, ↓reduceIte] at hx219_0)
                have qi219 : (2 < l0.length) = True := eq_true (by omega)
                (try rw [show ((2 : Int)).toNat = 2 from rfl] at hx219_0)
                replace p219 := eq_true p219
                replace q219 := eq_true q219
                have p220 : 0 ≤ (2 : Int) := (by omega)
                have q220 : 2 < (l0.length : Int) := of_decide_eq_true (by first | (with_reducible assumption) | assumption)
                obtain ⟨ad220, e220, hx220_0⟩ := Kd.at_int HR0.out 2 p220 q220
                obtain rfl : ad210 = ad220 := (by injection e220)
                (try simp only [show (2 : Int).toNat = 2 from rfl, Nat.reduceMul, Nat.reduceEqDiff, Go.Addr.add, ↓reduceIte] at hx220_0)
                have qi220 : (2 < l0.length) = True := eq_true (by omega)
                (try rw [show ((2 : Int)).toNat = 2 from rfl] at hx220_0)
                replace p220 := eq_true p220
                replace q220 := eq_true q220
                go_enter Try.func108, Try.ntmps108
                go_wp2
                go_ret
                exact ⟨by first | rfl | (simp; done) | (simp [*]; done), by repeat (first | exact Drawn0.refl _ | apply Drawn0.step)⟩
          · rw [if_neg c16] at H
            exact absurd H (by simp)
        · rw [if_neg c15] at H
          have c15b0 : ((rd l0 1) == a1) = false := beq_eq_false_iff_ne.mpr c15
          have c15b1 : ((rd l0 1) != a1) = true := bne_iff_ne.mpr c15
          by_cases c19 : 2 < (l0.length : Int)
          · rw [if_pos c19] at H
            have c19b0 : decide (2 < (l0.length : Int)) = true := decide_eq_true c19
            have c19b1 : decide (2 < l0.length) = true := decide_eq_true (by omega)
            clear c19
            by_cases c20 : (rd l0 2) = a1
            · rw [if_pos c20] at H
              have c20b0 : ((rd l0 2) == a1) = true := beq_iff_eq.mpr c20
              have c20b1 : ((rd l0 2) != a1) = false := bne_eq_false_iff_eq.mpr c20
              clear c20
              obtain rfl := Option.some.inj H
              have p210 : 0 ≤ (0 : Int) := (by omega)
              have q210 : 0 < (l0.length : Int) := of_decide_eq_true (by first | (with_reducible assumption) | assumption)
              obtain ⟨ad210, e210, hx210_0⟩ := Kd.at_int HR0.out 0 p210 q210
              cases e210
              have qi210 : (0 < l0.length) = True := eq_true (by omega)
              (try rw [show ((0 : Int)).toNat = 0 from rfl] at hx210_0)
              (try rw [Addr.add_zero'] at hx210_0)
              replace p210 := eq_true p210
              replace q210 := eq_true q210
              have p218 : 0 ≤ (1 : Int) := (by omega)
              have q218 : 1 < (l0.length : Int) := of_decide_eq_true (by first | (with_reducible assumption) | assumption)
              obtain ⟨ad218, e218, hx218_0⟩ := Kd.at_int HR0.out 1 p218 q218
              obtain rfl : ad210 = ad218 := (by injection e218)
              (try simp only [show (1 : Int).toNat = 1 from rfl, Nat.reduceMul, Nat.reduceEqDiff, Go.Addr.add, ↓reduceIte] at hx218_0)
              have qi218 : (1 < l0.length) = True := eq_true (by omega)
              (try rw [show ((1 : Int)).toNat = 1 from rfl] at hx218_0)
              replace p218 := eq_true p218
              replace q218 := eq_true q218
              have p222 : 0 ≤ (2 : Int) := (by omega)
              have q222 : 2 < (l0.length : Int) := of_decide_eq_true (by first | (with_reducible assumption) | assumption)
              obtain ⟨ad222, e222, hx222_0⟩ := Kd.at_int HR0.out 2 p222 q222
              obtain rfl : ad210 = ad222 := (by injection e222)
              (try simp only [show (2 : Int).toNat = 2 from rfl, Nat.reduceMul, Nat.reduceEqDiff, Go.Addr.add, ↓reduceIte] at hx222_0)
              have qi222 : (2 < l0.length) = True := eq_true (by omega)
              (try rw [show ((2 : Int)).toNat = 2 from rfl] at hx222_0)
              replace p222 := eq_true p222
              replace q222 := eq_true q222
              have p223 : 0 ≤ (0 : Int) := (by omega)
              have q223 : 0 < (l0.length : Int) := of_decide_eq_true (by first | (with_reducible assumption) | assumption)
              obtain ⟨ad223, e223, hx223_0⟩ := Kd.at_int HR0.out 0 p223 q223
              obtain rfl : ad210 = ad223 := (by injection e223)
              have qi223 : (0 < l0.length) = True := eq_true (by omega)
              (try rw [show ((0 : Int)).toNat = 0 from rfl] at hx223_0)
              (try rw [Addr.add_zero'] at hx223_0)
              replace p223 := eq_true p223
              replace q223 := eq_true q223
              go_enter Try.func108, Try.ntmps108
              go_wp2
              go_ret
              exact ⟨by first | rfl | (simp; done) | (simp [*]; done), by repeat (first | exact Drawn0.refl _ | apply Drawn0.step)⟩
            · rw [if_neg c20] at H
              have c20b0 : ((rd l0 2) == a1) = false := beq_eq_false_iff_ne.mpr c20
              have c20b1 : ((rd l0 2) != a1) = true := bne_iff_ne.mpr c20
              obtain rfl := Option.some.inj H
              have p210 : 0 ≤ (0 : Int) := (by omega)
              have q210 : 0 < (l0.length : Int) := of_decide_eq_true (by first | (with_reducible assumption) | assumption)
              obtain ⟨ad210, e210, hx210_0⟩ := Kd.at_int HR0.out 0 p210 q210
              cases e210
              have qi210 : (0 < l0.length) = True := eq_true (by omega)
              (try rw [show ((0 : Int)).toNat = 0 from rfl] at hx210_0)
              (try rw [Addr.add_zero'] at hx210_0)
              replace p210 := eq_true p210
              replace q210 := eq_true q210
              have p218 : 0 ≤ (1 : Int) := (by omega)
              have q218 : 1 < (l0.length : Int) := of_decide_eq_true (by first | (with_reducible assumption) | assumption)
              obtain ⟨ad218, e218, hx218_0⟩ := Kd.at_int HR0.out 1 p218 q218
              obtain rfl : ad210 = ad218 := (by injection e218)
              (try simp only [show (1 : Int).toNat = 1 from rfl, Nat.reduceMul, Nat.reduceEqDiff, Go.Addr.add, ↓reduceIte] at hx218_0)
              have qi218 : (1 < l0.length) = True := eq_true (by omega)
              (try rw [show ((1 : Int)).toNat = 1 from rfl] at hx218_0)
              replace p218 := eq_true p218
              replace q218 := eq_true q218
              have p222 : 0 ≤ (2 : Int) := (by omega)
              have q222 : 2 < (l0.length : Int) := of_decide_eq_true (by first | (with_reducible assumption) | assumption)
              obtain ⟨ad222, e222, hx222_0⟩ := Kd.at_int HR0.out 2 p222 q222
              obtain rfl : ad210 = ad222 := (by injection e222)
              (try simp only [show (2 : Int).toNat = 2 from rfl, Nat.reduceMul, Nat.reduceEqDiff, Go.Addr.add, ↓reduceIte] at hx222_0)
              have qi222 : (2 < l0.length) = True := eq_true (by omega)
              (try rw [show ((2 : Int)).toNat = 2 from rfl] at hx222_0)
              replace p222 := eq_true p222
              replace q222 := eq_true q222
              go_enter Try.func108, Try.ntmps108
              go_wp2
              go_ret
              exact ⟨by first | rfl | (simp; done) | (simp [*]; done), by repeat (first | exact Drawn0.refl _ | apply Drawn0.step)⟩
          · rw [if_neg c19] at H
            exact absurd H (by simp)
      · rw [if_neg c14] at H
        exact absurd H (by simp)
  · rw [if_neg c4] at H
    exact absurd H (by simp)

end Go.Proofs.Ytepilofcionekaa.PMesh
