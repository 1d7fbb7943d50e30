/-
  Contracts: the decimal numeral, both sides; the law Decimal.
-/
import Derived.Test.YtjfoimbeflobkaaDoorTread
import Derived.Test.YtjfoimbeflobkaaDoorTtab
import Derived.Test.YtjfoimbeflobkaaDoorShelfDec
import Derived.Lib.AppendIntMem
import Derived.WalkKit
namespace Go.Proofs.YtjfoimbeflobkaaDoor
open Go.RowKit
set_option linter.unusedVariables false

theorem below_next {w W W1 : World} (h : Below w.heap.size w W) (k : Below W.heap.size W W1) : Below w.heap.size w W1 :=
  h.trans (k.mono h.size)

theorem spec_l01Dec_any (n : Int) (h0 : -9223372036854775808 ≤ n) (h1 : n ≤ 9223372036854775807) (w : World) : Calls Tryd.prog 14 #[.int .i64 n] w fun e w' => e = .returned (.string (decS n)) ∧ Below w.heap.size w w' :=
  Pl01Value.spec_l01Dec.calls 50 n (decS n) w (dec_itoa 50 (Nat.le_refl _) n h0 h1)

theorem impl_Decimal_any (n : Int) (h0 : -9223372036854775808 ≤ n) (h1 : n ≤ 9223372036854775807) (w : World) (ht : Tab w) : Calls Tryd.prog 7 #[.int .i64 n] w fun e w' => e = .returned (.string (decS n)) ∧ Below w.heap.size w w' := by
  have HT : Hid (Tab w) := ht
  clear ht
  go_enter Tryd.func7, Tryd.ntmps7
  go_wp2_with (first | (go_at_call 15; refine (Tryd.strconv_FormatInt_10 _ h0 h1 _ HT.out).mono ?_; rintro e w' ⟨rfl, k, os, rfl⟩) | fail)
  go_ret
  exact ⟨rfl, Lib.below_grow _ w (Nat.le_refl _) k os⟩

theorem spec_Decimal_any (n : Int) (h0 : -9223372036854775808 ≤ n) (h1 : n ≤ 9223372036854775807) (w : World) : Calls Tryd.prog 6 #[.int .i64 n] w fun e w' => e = .returned (.string (decS n)) ∧ Below w.heap.size w w' := by
  go_enter Tryd.func6, Tryd.ntmps6
  go_wp2_with (first | (go_at_call 14; refine (spec_l01Dec_any _ h0 h1 _).mono ?_; rintro e w1 ⟨rfl, hb1⟩) | fail)
  go_ret
  exact ⟨rfl, hb1⟩

theorem fnExactDecimal_walk (w : World) (n : Int) (hn : IntKind.i64.min ≤ n ∧ n ≤ IntKind.i64.max) (ht : Tab w) :
    Calls Tryd.prog 3 #[.int .i64 n] w fun e w' => e = .returned (.bool true) ∧ Below w.heap.size w w' := by
  have h0 : -9223372036854775808 ≤ n := hn.1
  have h1 : n ≤ 9223372036854775807 := hn.2
  have HT : Hid (Tab w) := ht
  clear ht hn
  go_enter Tryd.func3, Tryd.ntmps3
  go_wp2_with (first | (go_at_call 6; refine (spec_Decimal_any _ h0 h1 _).mono ?_; rintro e w1 ⟨rfl, hb1⟩) | (go_at_call 7; refine (impl_Decimal_any _ h0 h1 _ (HT.out.below hb1)).mono ?_; rintro e w2 ⟨rfl, hb2⟩) | fail)
  go_ret
  exact ⟨rfl, below_next hb1 hb2⟩

end Go.Proofs.YtjfoimbeflobkaaDoor
