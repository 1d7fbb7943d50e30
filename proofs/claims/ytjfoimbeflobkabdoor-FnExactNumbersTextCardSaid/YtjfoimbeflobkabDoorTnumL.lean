/-
  The law NumbersText.
-/
import Derived.Test.YtjfoimbeflobkabDoorTnum
import Derived.Test.YtjfoimbeflobkabDoorE2
import Derived.Test.YtjfoimbeflobkabDoorE4
namespace Go.Proofs.YtjfoimbeflobkabDoor
open Fl Go.RowKit
set_option linter.unusedVariables false

theorem fnExactNumbersText_walk (w : World) (A : Option Addr) (n cap : Nat) (xs : List Nat) (hn : xs.length = n) (hA : FloatsAt w w.heap.size A xs) (hz : TabZ w) :
    Calls Tryd.prog 4 #[.slice A n cap] w fun e w' => e = .returned (.bool true) ∧ Below w.heap.size w w' := by
  by_cases hl : n ≤ 1048576
  · have b1 : ¬ (1048576 : Int) < (n : Int) := by omega
    have h1 := fun A c w hA => spec_NumbersText A c xs n hn w hA
    have h2 := fun A c w hA hz => impl_NumbersText A c xs n hn w hA hz
    obtain ⟨s, b, hsb⟩ : ∃ s b, numF xs = (s, b) := ⟨_, _, rfl⟩
    rw [hsb] at h1 h2
    have H1 : Hid (∀ (A : Option Addr) (c : Nat) (w : World), FloatsAt w w.heap.size A xs → Calls Tryd.prog 13 #[.slice A n c] w fun e w' => e = .returned (.tuple #[.string s, .bool b]) ∧ Below w.heap.size w w') := h1
    have H2 : Hid (∀ (A : Option Addr) (c : Nat) (w : World), FloatsAt w w.heap.size A xs → TabZ w → Calls Tryd.prog 15 #[.slice A n c] w fun e w' => e = .returned (.tuple #[.string s, .bool b]) ∧ Below w.heap.size w w') := h2
    have HA : Hid (FloatsAt w w.heap.size A xs) := hA
    have HN : Hid (xs.length = n) := hn
    have HZ : Hid (TabZ w) := hz
    clear h1 h2 hsb hA hn hz
    go_enter Tryd.func4, Tryd.ntmps4
    go_wp2_with (first
      | (go_at_call 14; first
          | (refine (laws_toFloat32S _ _ xs n HN.out hl _ (HA.out.up K4)).mono ?_; rintro e w5 ⟨rfl, h5, hlt5, hb5⟩; have F5 := Lib.hid h5; have F3b := Lib.hid (F3.out.up (hb4.trans (hb5.mono hb4.size))); have K5 := hex_next K4 hb5; clear h5 hlt5)
          | (refine (laws_toFloat32S _ _ xs n HN.out hl _ (HA.out.up K2)).mono ?_; rintro e w3 ⟨rfl, h3, hlt3, hb3⟩; have F3 := Lib.hid h3; have K3 := hex_next K2 hb3; clear h3 hlt3)
          | (refine (laws_toFloat32S _ _ xs n HN.out hl _ HA.out).mono ?_; rintro e w1 ⟨rfl, h1, hlt1, hb1⟩; have F1 := Lib.hid h1; clear h1 hlt1))
      | (go_at_call 13; refine (H1.out _ _ _ F1.out).mono ?_; rintro e w2 ⟨rfl, hb2⟩; have K2 := hex_next hb1 hb2)
      | (go_at_call 15; refine (H2.out _ _ _ F3.out (HZ.out.below K3)).mono ?_; rintro e w4 ⟨rfl, hb4⟩; have K4 := hex_next K3 hb4)
      | (go_at_call 16; refine (laws_eqFloat32S _ _ _ _ xs n HN.out hl _ F3b.out F5.out).mono ?_; rintro e w6 ⟨rfl, m6, rfl⟩)
      | fail)
    go_ret
    exact ⟨rfl, hex_next K5 (below_drewN2 _ _)⟩
  · have b1 : (1048576 : Int) < (n : Int) := by omega
    go_enter Tryd.func4, Tryd.ntmps4
    go_wp2_with fail
    go_ret
    exact ⟨rfl, Below.refl _ _⟩

end Go.Proofs.YtjfoimbeflobkabDoor
