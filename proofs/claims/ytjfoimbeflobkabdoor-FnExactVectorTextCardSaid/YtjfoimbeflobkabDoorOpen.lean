/-
  How a law's arguments are opened: floats, numbers, strings, vectors by value, slices of floats.
-/
import Derived.Laws.Cover2
import Derived.ProofKit
import Derived.WalkKit
import Derived.OpenShut
import Derived.Lib.SmallJoins
namespace Go.Proofs.YtjfoimbeflobkabDoor
open Go.ChangeShapes Go.WideShapes Go.ChangeAt Go.RowKit Go.Deep
open Go.ChangeMaps (open_string shut_string)

/-- A row of cells that can be read from A on; nil has none. -/
def RowIn (w : World) (A : Option Addr) (cs : List Value) : Prop :=
  (A = none ∧ cs = []) ∨ ∃ b off, A = some ⟨b, off, none⟩ ∧ b < w.heap.size ∧ ∀ i v, cs[i]? = some v → w.cell? ⟨b, off + i, none⟩ = some v

section
variable {H : Type} {enc : TypeId × Value → H} {P : Program} {w : World} {base : Nat} {spare : Nat → Bool} {held : Bool}

theorem flt_lt {k : FloatKind} {b : Nat} (h : (Lit.float k b).wf = true) : b < 2 ^ k.format.width := by
  cases k
  · show b < 4294967296; simpa [Lit.wf] using h
  · show b < 18446744073709551616; simpa [Lit.wf] using h

theorem op_float {r : Reach} {b0 : Nat} {t : TypeId} {k : FloatKind} {v : Value} {d : DataW H} {ps : List MemPlace} (ht : P.underlying t = some (.float k)) (hval : Value.okWide P w r b0 t v) (hd : DataW.Trod enc P w base spare held t v d ps) :
    ∃ b, b < 2 ^ k.format.width ∧ v = .float k b := by
  obtain ⟨b, rfl, _, _, hw⟩ := open_float ht hval hd
  exact ⟨b, flt_lt hw, rfl⟩

theorem op_int {r : Reach} {b0 : Nat} {t : TypeId} {k : IntKind} {v : Value} {d : DataW H} {ps : List MemPlace} (ht : P.underlying t = some (.int k)) (hval : Value.okWide P w r b0 t v) (hd : DataW.Trod enc P w base spare held t v d ps) :
    ∃ n, (k.min ≤ n ∧ n ≤ k.max) ∧ v = .int k n := by
  obtain ⟨n, rfl, _, _, hw⟩ := open_int ht hval hd
  exact ⟨n, by simpa [Lit.wf] using hw, rfl⟩

theorem op_string {r : Reach} {b0 : Nat} {t : TypeId} {v : Value} {d : DataW H} {ps : List MemPlace} (ht : P.underlying t = some .string) (hval : Value.okWide P w r b0 t v) (hd : DataW.Trod enc P w base spare held t v d ps) :
    ∃ s : ByteArray, s.size ≤ maxLen ∧ v = .string s := by
  obtain ⟨s, rfl, _, _, hw⟩ := open_string ht hval hd
  exact ⟨s, hw, rfl⟩

theorem trod_float {t : TypeId} {k : FloatKind} {n : Nat} {v : Value} {x : DataW H × List MemPlace} (ht : P.underlying t = some (.float k)) (h : DataW.trod enc P w base spare held n t [v] = some x) :
    ∃ b, b < 2 ^ k.format.width ∧ v = .float k b := by
  cases n with
  | zero => simp [DataW.trod] at h
  | succ n =>
    simp only [DataW.trod, ht] at h
    cases v <;> simp at h
    rename_i k' b
    obtain ⟨⟨rfl, hw⟩, _⟩ := h
    exact ⟨b, flt_lt hw, rfl⟩

theorem op_vec {r : Reach} {b0 : Nat} {t f : TypeId} {F : Array Field} {v : Value} {d : DataW H} {p : List MemPlace} (hs : P.underlying t = some (.struct F)) (hf : P.underlying f = some (.float .f32))
    (hF : (F.map (·.type)) = #[f, f, f]) (hone0 : oneCellFields P F = true) (hC : P.cellsOf t = 3)
    (hv : Value.okWide P w r b0 t v) (h : DataW.Trod enc P w base spare held t v d p) :
    ∃ x y z : Nat, x < 2 ^ 32 ∧ y < 2 ^ 32 ∧ z < 2 ^ 32 ∧ v = .agg #[.float .f32 x, .float .f32 y, .float .f32 z] := by
  obtain ⟨F⟩ := F
  have hl : F.length = 3 := by simpa using congrArg Array.size hF
  match F, hl with
  | [f0, f1, f2], _ =>
    simp at hF
    obtain ⟨e0, e1, e2⟩ := hF
    have hone : oneCellFields P #[f0, f1, f2] = true := hone0
    obtain ⟨v0, v1, v2, y0, y1, y2, n, rfl, _, _, t0, t1, t2⟩ := Joins.open_agg3 hs hone hC hv h
    rw [e0] at t0; rw [e1] at t1; rw [e2] at t2
    obtain ⟨x, hx, rfl⟩ := trod_float hf t0
    obtain ⟨y, hy, rfl⟩ := trod_float hf t1
    obtain ⟨z, hz, rfl⟩ := trod_float hf t2
    exact ⟨x, y, z, hx, hy, hz, rfl⟩
end
end Go.Proofs.YtjfoimbeflobkabDoor
