/-
  Contracts and walks: FromBits, NextUp, NextDown, FlushNumber on both sides.
-/
import Derived.Test.YtmbfdpplkbdpiaaA2
import Derived.Test.YtmbfdpplkbdpiaaIn
import Derived.Outline
namespace Go.Proofs.Ytmbfdpplkbdpiaa
open Fl Ieee Go.RowKit
set_option linter.unusedVariables false

theorem sameFloat_FR (a b : Nat) (X : Option Nat) (ha : FR .f64 a X) (hb : FR .f64 b X) (w : World) :
    Calls Try.prog 19 #[.float .f64 a, .float .f64 b] w fun e w' => e = .returned (.bool true) ∧ ∃ n, w' = w.drewN n :=
  sameFloat_eq a b (ha.val.trans hb.val.symm) w

theorem spec_FromBits_in (n : Int) (h0 : 0 ≤ n) (h1 : n ≤ 4294967295) (w : World) : Calls Try.prog 17 #[.int .i64 n] w fun e w' => e = .returned (.tuple #[.float .f32 n.toNat, .bool true]) ∧ w' = w := by
  have hin := inR_true h0 h1
  go_enter Try.func17, Try.ntmps17
  go_wp2_with (first | (go_at_call 26; refine (spec_l00In _ _ _ _).mono ?_; rintro e w' ⟨rfl, rfl⟩) | go_in)
  go_ret2
  exact ⟨rfl, rfl⟩

theorem impl_FromBits_in (n : Int) (h0 : 0 ≤ n) (h1 : n ≤ 4294967295) (w : World) : Calls Try.prog 18 #[.int .i64 n] w fun e w' => e = .returned (.tuple #[.float .f32 n.toNat, .bool true]) ∧ w' = w := by
  have hin := inR_true h0 h1
  go_enter Try.func18, Try.ntmps18
  go_wp2_with (first | (go_at_call 28; refine (impl_within _ _ _ _).mono ?_; rintro e w' ⟨rfl, rfl⟩) | go_in)
  go_ret2
  exact ⟨rfl, rfl⟩

theorem spec_FromBits_out (n : Int) (h : n < 0 ∨ 4294967295 < n) (w : World) : Calls Try.prog 17 #[.int .i64 n] w fun e w' => e = .returned (.tuple #[.float .f32 0, .bool false]) ∧ w' = w := by
  have hin := inR_false h
  go_enter Try.func17, Try.ntmps17
  go_wp2_with (first | (go_at_call 26; refine (spec_l00In _ _ _ _).mono ?_; rintro e w' ⟨rfl, rfl⟩) | go_in)
  go_ret2
  exact ⟨rfl, rfl⟩

theorem impl_FromBits_out (n : Int) (h : n < 0 ∨ 4294967295 < n) (w : World) : Calls Try.prog 18 #[.int .i64 n] w fun e w' => e = .returned (.tuple #[.float .f32 0, .bool false]) ∧ w' = w := by
  have hin := inR_false h
  go_enter Try.func18, Try.ntmps18
  go_wp2_with (first | (go_at_call 28; refine (impl_within _ _ _ _).mono ?_; rintro e w' ⟨rfl, rfl⟩) | go_in)
  go_ret2
  exact ⟨rfl, rfl⟩

theorem fnExactFromBits_walk (w : World) (a0 : Int) (w0 : IntKind.i64.min ≤ a0 ∧ a0 ≤ IntKind.i64.max) :
    Calls Try.prog 8 #[.int .i64 a0] w fun e w' => e = .returned (.bool true) ∧ Below w.heap.size w w' := by
  clear w0
  by_cases h : 0 ≤ a0 ∧ a0 ≤ 4294967295
  · obtain ⟨h0, h1⟩ := h
    go_enter Try.func8, Try.ntmps8
    go_wp2_with (first | (go_at_call 17; refine (spec_FromBits_in _ h0 h1 _).mono ?_; rintro e w' ⟨rfl, rfl⟩) | (go_at_call 18; refine (impl_FromBits_in _ h0 h1 _).mono ?_; rintro e w' ⟨rfl, rfl⟩) | (refine wpList_widen rfl _ _ _ rfl _ rfl (by kernel_rfl) (by kernel_rfl) ?_; intro r n hr) | (go_at_call 19; refine (sameFloat_FR _ _ _ (by assumption) (by assumption) _).mono ?_; rintro e w' ⟨rfl, n, rfl⟩))
    go_ret
    exact ⟨rfl, below_drewN2 _ _⟩
  · have h' : a0 < 0 ∨ 4294967295 < a0 := by omega
    clear h
    go_enter Try.func8, Try.ntmps8
    go_wp2_with (first | (go_at_call 17; refine (spec_FromBits_out _ h' _).mono ?_; rintro e w' ⟨rfl, rfl⟩) | (go_at_call 18; refine (impl_FromBits_out _ h' _).mono ?_; rintro e w' ⟨rfl, rfl⟩) | (refine wpList_widen rfl _ _ _ rfl _ rfl (by kernel_rfl) (by kernel_rfl) ?_; intro r n hr) | (go_at_call 19; refine (sameFloat_FR _ _ _ (by assumption) (by assumption) _).mono ?_; rintro e w' ⟨rfl, n, rfl⟩))
    go_ret
    exact ⟨rfl, below_drewN2 _ _⟩

end Go.Proofs.Ytmbfdpplkbdpiaa
