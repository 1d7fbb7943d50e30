/-
  Rows of floats: a slice argument opened; what a copy of it holds.
-/
import Derived.Test.YtjfoimbeflobkabDoorOpen
import Derived.Test.YtjfoimbeflobkabDoorC1
import Derived.Deep.Slices
import Derived.OwnWalk
import Derived.Laws.LoneSync
namespace Go.Proofs.YtjfoimbeflobkabDoor
open Go.ChangeShapes Go.WideShapes Go.ChangeAt Go.RowKit Go.Deep Fl
set_option linter.unusedVariables false

/-- Where slice value '.slice A n cap' leads, the floats xs can be read; they lie below block H. -/
def FloatsAt (w : World) (H : Nat) (A : Option Addr) (xs : List Nat) : Prop :=
  ∀ i, i < xs.length → ∃ b off, A = some ⟨b, off, none⟩ ∧ b < H ∧ w.cell? ⟨b, off + i, none⟩ = some (.float .f32 (xs.getD i 0)) ∧ xs.getD i 0 < 4294967296

theorem FloatsAt.below {w w' : World} {B H : Nat} {A : Option Addr} {xs : List Nat} (h : FloatsAt w H A xs) (hH : H ≤ B) (hb : Below B w w') : FloatsAt w' H A xs := by
  intro i hi
  obtain ⟨b, off, h1, h2, h3, h4⟩ := h i hi
  exact ⟨b, off, h1, h2, (hb.cell (Nat.lt_of_lt_of_le h2 hH)).trans h3, h4⟩

theorem FloatsAt.drewN {w : World} {A : Option Addr} {xs : List Nat} (h : FloatsAt w w.heap.size A xs) (n : Nat) : FloatsAt (w.drewN n) (w.drewN n).heap.size A xs := h

theorem FloatsAt.up {w w' : World} {A : Option Addr} {xs : List Nat} (h : FloatsAt w w.heap.size A xs) (hb : Below w.heap.size w w') : FloatsAt w' w'.heap.size A xs := by
  intro i hi
  obtain ⟨b, off, h1, h2, h3, h4⟩ := h i hi
  exact ⟨b, off, h1, Nat.lt_of_lt_of_le h2 hb.size, (hb.cell h2).trans h3, h4⟩

section
variable {H : Type} {enc : TypeId × Value → H} {P : Program} {w : World} {base : Nat} {spare : Nat → Bool} {held : Bool}

theorem op_f32s {r : Reach} {b0 : Nat} {t f : TypeId} {v : Value} {d : DataW H} {p : List MemPlace} (ht : P.underlying t = some (.slice f)) (hf : P.underlying f = some (.float .f32)) (hc : P.cellsOf f = 1)
    (hv : Value.okWide P w r b0 t v) (h : DataW.Trod enc P w base spare held t v d p) :
    ∃ (A : Option Addr) (n cap : Nat) (xs : List Nat), v = .slice A n cap ∧ xs.length = n ∧ n ≤ maxLen ∧ FloatsAt w w.heap.size A xs := by
  obtain ⟨fuel, hfu⟩ := h
  obtain ⟨A, n, cap, rfl⟩ := okWide_slice ht hv
  simp only [Value.cells] at hfu
  rcases open_slice1 ht hc hfu with ⟨h0, _⟩ | ⟨a, len, cap', m, n', V, D, Pl, h0, hb, hl, hmx, hm, _, hV⟩
  · cases h0
    exact ⟨none, 0, 0, [], rfl, rfl, Nat.zero_le _, fun i hi => absurd hi (Nat.not_lt_zero _)⟩
  · cases h0
    have hm' : n ≤ m := by rw [hm]; split <;> omega
    have hx : ∀ i, i < n → ∃ b, b < 4294967296 ∧ V i = .float .f32 b := fun i hi => trod_float hf (hV i (Nat.lt_of_lt_of_le hi hm')).2
    obtain ⟨g, hg⟩ : ∃ g : Nat → Nat, ∀ i, i < n → g i < 4294967296 ∧ V i = .float .f32 (g i) := by
      refine ⟨fun i => if h : i < n then (hx i h).choose else 0, fun i hi => ?_⟩
      simp only [hi, dite_true]
      exact (hx i hi).choose_spec
    refine ⟨some a, n, cap, (List.range n).map g, rfl, by simp, Nat.le_trans hl hmx, fun i hi => ?_⟩
    have hi' : i < n := by simpa using hi
    have hcell := (hV i (Nat.lt_of_lt_of_le hi' hm')).1
    have hcell0 := (hV 0 (Nat.lt_of_lt_of_le (Nat.lt_of_le_of_lt (Nat.zero_le _) hi') hm')).1
    obtain ⟨b, off, spot⟩ := a
    have hcell0' : w.cell? ⟨b, off, spot⟩ = some (V 0) := by simpa [Addr.add] using hcell0
    obtain ⟨_, _, _, _, hspot⟩ := World.shape?_of_cell? hcell0'
    have hspot' : spot = none := hspot
    subst hspot'
    have hcell' : w.cell? ⟨b, off + i, none⟩ = some (V i) := by
      by_cases h0 : i = 0
      · subst h0; exact hcell0'
      · simpa [Addr.add, h0] using hcell
    refine ⟨b, off, rfl, World.block_lt_of_cell? _ _ hcell', ?_, ?_⟩
    · rw [hcell', (hg i hi').2]; simp [List.getD, hi']
    · simp [List.getD, hi', (hg i hi').1]
end
end Go.Proofs.YtjfoimbeflobkabDoor
