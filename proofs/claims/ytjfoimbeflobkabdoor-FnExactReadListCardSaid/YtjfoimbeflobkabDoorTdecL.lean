/-
  Contracts: the decimal numeral, both sides; the law Decimal.
-/
import Derived.Test.YtjfoimbeflobkabDoorTread
import Derived.Test.YtjfoimbeflobkabDoorTtab
import Derived.Test.YtjfoimbeflobkabDoorShelfDec
import Derived.Lib.AppendIntMem
import Derived.WalkKit
namespace Go.Proofs.YtjfoimbeflobkabDoor
open Go.RowKit
set_option linter.unusedVariables false

theorem below_next {w W W1 : World} (h : Below w.heap.size w W) (k : Below W.heap.size W W1) : Below w.heap.size w W1 :=
  h.trans (k.mono h.size)

theorem spec_l01Dec_any (n : Int) (h0 : -9223372036854775808 ≤ n) (h1 : n ≤ 9223372036854775807) (w : World) : Calls Tryd.prog 53 #[.int .i64 n] w fun e w' => e = .returned (.string (decS n)) ∧ Below w.heap.size w w' :=
  Pl01Value.spec_l01Dec.calls 50 n (decS n) w (dec_itoa 50 (Nat.le_refl _) n h0 h1)

theorem impl_Decimal_any (n : Int) (h0 : -9223372036854775808 ≤ n) (h1 : n ≤ 9223372036854775807) (w : World) (ht : Tab w) : Calls Tryd.prog 56 #[.int .i64 n] w fun e w' => e = .returned (.string (decS n)) ∧ Below w.heap.size w w' := by
  have HT : Hid (Tab w) := ht
  clear ht
  go_enter Tryd.func56, Tryd.ntmps56
  go_wp2_with (first | (go_at_call 43; refine (Tryd.strconv_FormatInt_10 _ h0 h1 _ HT.out).mono ?_; rintro e w' ⟨rfl, k, os, rfl⟩) | fail)
  go_ret
  exact ⟨rfl, Lib.below_grow _ w (Nat.le_refl _) k os⟩

end Go.Proofs.YtjfoimbeflobkabDoor
