-- written by a program of this session out of the translation (wip/gen/patch_print.py)
import Derived.Test.YtepilofcionekaaPMeshx0
namespace Go.Proofs.Ytepilofcionekaa.PMesh
open Go.RowKit Go.Proofs.YtepilofcionekaaW.PrintWords Go.Proofs.YtepilofcionekaaW.PrintLast Go.Proofs.YtepilofcionekaaW.PrintMore
attribute [local go_sem] max2_int min2_int max_two min_two max_three min_three max_four min_four   -- for this text's walks alone
set_option linter.unusedVariables false
set_option linter.unusedSimpArgs false

/-! ### spec_l02Has: function 119 -/
def spec_l02Has.f (l0 : List Int) (a1 : Int) : Option (Bool) := if 0 < (l0.length : Int) then (if (rd l0 0) = a1 then (some true) else (if 1 < (l0.length : Int) then (if (rd l0 1) = a1 then (some true) else (if 2 < (l0.length : Int) then (some ((rd l0 2) == a1)) else (none))) else (none))) else (none)
set_option maxHeartbeats 8000000 in
set_option maxRecDepth 100000 in
theorem spec_l02Has.calls (A0 : Option Addr) (c0 : Nat) (l0 : List Int) (a1 : Int) (r : Bool) (w : World) (hr0 : Kd.C (Kd.int .i64) w A0 l0.length l0) (hc0 : l0.length ≤ c0) (h : spec_l02Has.f l0 a1 = some r) :
    Calls Try.prog 119 #[.slice A0 l0.length c0, .int .i64 a1] w fun e w' => e = .returned (.bool r) ∧ Drawn0 w w' := by
  have HR0 := Aside0.mk hr0
  have HC0 := Aside0.mk hc0
  clear hr0 hc0
  have H : (if 0 < (l0.length : Int) then (if (rd l0 0) = a1 then (some true) else (if 1 < (l0.length : Int) then (if (rd l0 1) = a1 then (some true) else (if 2 < (l0.length : Int) then (some ((rd l0 2) == a1)) else (none))) else (none))) else (none)) = some r := h
  clear h
  by_cases c3 : 0 < (l0.length : Int)
  · rw [if_pos c3] at H
    have c3b0 : decide (0 < (l0.length : Int)) = true := decide_eq_true c3
    have c3b1 : decide (0 < l0.length) = true := decide_eq_true (by omega)
    clear c3
    by_cases c4 : (rd l0 0) = a1
    · rw [if_pos c4] at H
      have c4b0 : ((rd l0 0) == a1) = true := beq_iff_eq.mpr c4
      have c4b1 : ((rd l0 0) != a1) = false := bne_eq_false_iff_eq.mpr c4
      clear c4
      obtain rfl := Option.some.inj H
      have p178 : 0 ≤ (0 : Int) := (by omega)
      have q178 : 0 < (l0.length : Int) := of_decide_eq_true (by first | (with_reducible assumption) | assumption)
      obtain ⟨ad178, e178, hx178_0⟩ := Kd.at_int HR0.out 0 p178 q178
      cases e178
      have qi178 : (0 < l0.length) = True := eq_true (by omega)
      (try rw [show ((0 : Int)).toNat = 0 from rfl] at hx178_0)
      (try rw [Addr.add_zero'] at hx178_0)
      replace p178 := eq_true p178
      replace q178 := eq_true q178
      go_enter Try.func119, Try.ntmps119
      go_wp2
      go_ret
      exact ⟨by first | rfl | (simp; done) | (simp [*]; done), by repeat (first | exact Drawn0.refl _ | apply Drawn0.step)⟩
    · rw [if_neg c4] at H
      have c4b0 : ((rd l0 0) == a1) = false := beq_eq_false_iff_ne.mpr c4
      have c4b1 : ((rd l0 0) != a1) = true := bne_iff_ne.mpr c4
      by_cases c5 : 1 < (l0.length : Int)
      · rw [if_pos c5] at H
        have c5b0 : decide (1 < (l0.length : Int)) = true := decide_eq_true c5
        have c5b1 : decide (1 < l0.length) = true := decide_eq_true (by omega)
        clear c5
        by_cases c6 : (rd l0 1) = a1
        · rw [if_pos c6] at H
          have c6b0 : ((rd l0 1) == a1) = true := beq_iff_eq.mpr c6
          have c6b1 : ((rd l0 1) != a1) = false := bne_eq_false_iff_eq.mpr c6
          clear c6
          obtain rfl := Option.some.inj H
          have p178 : 0 ≤ (0 : Int) := (by omega)
          have q178 : 0 < (l0.length : Int) := of_decide_eq_true (by first | (with_reducible assumption) | assumption)
          obtain ⟨ad178, e178, hx178_0⟩ := Kd.at_int HR0.out 0 p178 q178
          cases e178
          have qi178 : (0 < l0.length) = True := eq_true (by omega)
          (try rw [show ((0 : Int)).toNat = 0 from rfl] at hx178_0)
          (try rw [Addr.add_zero'] at hx178_0)
          replace p178 := eq_true p178
          replace q178 := eq_true q178
          have p179 : 0 ≤ (1 : Int) := (by omega)
          have q179 : 1 < (l0.length : Int) := of_decide_eq_true (by first | (with_reducible assumption) | assumption)
          obtain ⟨ad179, e179, hx179_0⟩ := Kd.at_int HR0.out 1 p179 q179
          obtain rfl : ad178 = ad179 := (by injection e179)
          (try simp only [show (1 : Int).toNat = 1 from rfl, Nat.reduceMul, Nat.reduceEqDiff, Go.Addr.add, ↓reduceIte] at hx179_0)
          have qi179 : (1 < l0.length) = True := eq_true (by omega)
          (try rw [show ((1 : Int)).toNat = 1 from rfl] at hx179_0)
          replace p179 := eq_true p179
          replace q179 := eq_true q179
          go_enter Try.func119, Try.ntmps119
          go_wp2
          go_ret
          exact ⟨by first | rfl | (simp; done) | (simp [*]; done), by repeat (first | exact Drawn0.refl _ | apply Drawn0.step)⟩
        · rw [if_neg c6] at H
          have c6b0 : ((rd l0 1) == a1) = false := beq_eq_false_iff_ne.mpr c6
          have c6b1 : ((rd l0 1) != a1) = true := bne_iff_ne.mpr c6
          by_cases c7 : 2 < (l0.length : Int)
          · rw [if_pos c7] at H
            have c7b0 : decide (2 < (l0.length : Int)) = true := decide_eq_true c7
            have c7b1 : decide (2 < l0.length) = true := decide_eq_true (by omega)
            clear c7
            obtain rfl := Option.some.inj H
            have p178 : 0 ≤ (0 : Int) := (by omega)
            have q178 : 0 < (l0.length : Int) := of_decide_eq_true (by first | (with_reducible assumption) | assumption)
            obtain ⟨ad178, e178, hx178_0⟩ := Kd.at_int HR0.out 0 p178 q178
            cases e178
            have qi178 : (0 < l0.length) = True := eq_true (by omega)
            (try rw [show ((0 : Int)).toNat = 0 from rfl] at hx178_0)
            (try rw [Addr.add_zero'] at hx178_0)
            replace p178 := eq_true p178
            replace q178 := eq_true q178
            have p179 : 0 ≤ (1 : Int) := (by omega)
            have q179 : 1 < (l0.length : Int) := of_decide_eq_true (by first | (with_reducible assumption) | assumption)
            obtain ⟨ad179, e179, hx179_0⟩ := Kd.at_int HR0.out 1 p179 q179
            obtain rfl : ad178 = ad179 := (by injection e179)
            (try simp only [show (1 : Int).toNat = 1 from rfl, Nat.reduceMul, Nat.reduceEqDiff, Go.Addr.add, ↓reduceIte] at hx179_0)
            have qi179 : (1 < l0.length) = True := eq_true (by omega)
            (try rw [show ((1 : Int)).toNat = 1 from rfl] at hx179_0)
            replace p179 := eq_true p179
            replace q179 := eq_true q179
            have p180 : 0 ≤ (2 : Int) := (by omega)
            have q180 : 2 < (l0.length : Int) := of_decide_eq_true (by first | (with_reducible assumption) | assumption)
            obtain ⟨ad180, e180, hx180_0⟩ := Kd.at_int HR0.out 2 p180 q180
            obtain rfl : ad178 = ad180 := (by injection e180)
            (try simp only [show (2 : Int).toNat = 2 from rfl, Nat.reduceMul, Nat.reduceEqDiff, Go.Addr.add, ↓reduceIte] at hx180_0)
            have qi180 : (2 < l0.length) = True := eq_true (by omega)
            (try rw [show ((2 : Int)).toNat = 2 from rfl] at hx180_0)
            replace p180 := eq_true p180
            replace q180 := eq_true q180
            go_enter Try.func119, Try.ntmps119
            go_wp2
            go_ret
            exact ⟨by first | rfl | (simp; done) | (simp [*]; done), by repeat (first | exact Drawn0.refl _ | apply Drawn0.step)⟩
          · rw [if_neg c7] at H
            exact absurd H (by simp)
      · rw [if_neg c5] at H
        exact absurd H (by simp)
  · rw [if_neg c3] at H
    exact absurd H (by simp)

end Go.Proofs.Ytepilofcionekaa.PMesh
