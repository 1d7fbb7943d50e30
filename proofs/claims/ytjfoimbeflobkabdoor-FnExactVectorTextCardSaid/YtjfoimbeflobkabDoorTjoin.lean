/-
  Contract: texts joined with commas, the program's side.
-/
import Derived.Test.YtjfoimbeflobkabDoorProg
import Derived.Test.YtjfoimbeflobkabDoorWWords
import Derived.Test.YtjfoimbeflobkabDoorShelfJoin
import Derived.Lib.Join
import Derived.OwnWalk
import Derived.Lib.Hide
namespace Go.Proofs.YtjfoimbeflobkabDoor
open Go.RowKit Go.Proofs.YtjfoimbeflobkabDoorW.PrintWords
set_option linter.unusedVariables false

/-- Texts with commas between them. -/
def joinS (xs : List ByteArray) : ByteArray := if xs = [] then ⟨#[110, 111, 110, 101]⟩ else ⟨(Lib.join (xs.map (·.data.toList)) [44]).toArray⟩

theorem impl_joined (base : Nat) (v : Value) (xs : List ByteArray) (w : World) (h : w.ownsRow base 9 1 v xs.length (xs.map Value.string)) (hlen : (Lib.join (xs.map (·.data.toList)) [44]).length ≤ 1000000) (hn : xs.length ≤ 1000000) :
    Calls Tryd.prog 32 #[v] w fun e w' => e = .returned (.string (joinS xs)) ∧ Below w.heap.size w w' := by
  by_cases h0 : xs = []
  · subst h0
    obtain ⟨A, c, rfl⟩ := own_slice h
    have e : joinS [] = ⟨#[110, 111, 110, 101]⟩ := rfl
    rw [e]
    clear h hlen hn e
    have b0 : (([] : List ByteArray).length : Int) = 0 := rfl
    show Calls Tryd.prog 32 #[.slice A 0 c] w _
    go_enter Tryd.func32, Tryd.ntmps32
    go_wp2_with fail
    go_ret
    exact ⟨rfl, Below.refl _ _⟩
  · have hpos : 0 < xs.length := List.length_pos_iff.2 h0
    rcases h.2 with ⟨rfl, hz⟩ | ⟨g, cap, cur, rfl, hb, hh, hncap, hcm, hsz, htk⟩
    · omega
    · have hcell : ∀ (j : Nat) (x : ByteArray), xs[j]? = some x → w.cell? ⟨g, 0 + j, none⟩ = some (.string x) := by
        intro j x hx
        have hj : j < xs.length := by
          rcases Nat.lt_or_ge j xs.length with h | h
          · exact h
          · rw [List.getElem?_eq_none h] at hx; cases hx
        have := h.cells (g := g) rfl j (.string x) (by rw [List.getElem?_map, hx]; rfl)
        rw [Nat.zero_add]
        have ha : (⟨g, 0, none⟩ : Addr).add j = ⟨g, j, none⟩ := add_plain g j
        rw [ha] at this
        exact this
      have hg : g < w.heap.size := (Array.getElem?_eq_some_iff.1 hh).1
      have e : joinS xs = ⟨(Lib.join (xs.map (·.data.toList)) [44]).toArray⟩ := if_neg h0
      rw [e]
      have HC : Hid (∀ (j : Nat) (x : ByteArray), xs[j]? = some x → w.cell? ⟨g, 0 + j, none⟩ = some (.string x)) := hcell
      have b0 : ((xs.length : Int) == 0) = false := by simp; omega
      have H1 : Hid (xs.length ≤ cap) := hncap
      have H2 : Hid ((Lib.join (xs.map (·.data.toList)) [44]).length ≤ 1000000) := hlen
      have H3 : Hid (xs.length ≤ 1000000) := hn
      clear hcell h hb hh hncap hcm hsz htk h0 hpos e hlen hn
      go_enter Tryd.func32, Tryd.ntmps32
      go_wp2_with (first | (go_at_call 46; refine (Tryd.strings_Join g 0 cap xs ⟨#[44]⟩ _ HC.out hg (Nat.le_trans H3.out (by decide)) H1.out (Nat.le_trans H2.out (by decide))).mono ?_; rintro e w1 ⟨rfl, hb1⟩) | fail)
      go_ret
      exact ⟨rfl, hb1⟩
end Go.Proofs.YtjfoimbeflobkabDoor
