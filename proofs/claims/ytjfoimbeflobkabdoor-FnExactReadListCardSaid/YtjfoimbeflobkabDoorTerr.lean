/-
  What a row's listed sentinels give the walks: the two variables of the library hold errors, and hold them while only new memory is made.
-/
import Derived.Test.YtjfoimbeflobkabDoorTtab
import Derived.LaidLaws
namespace Go.Proofs.YtjfoimbeflobkabDoor
open Go.RowKit
set_option linter.unusedVariables false

def Errs (w : World) : Prop := ∃ tp p tq q, w.var? Tryd.prog "strconv.ErrRange" = some #[.iface tp p] ∧ w.var? Tryd.prog "strconv.ErrSyntax" = some #[.iface tq q]

theorem gErrR : Tryd.prog.globalNamed "strconv.ErrRange" = some 3 := by kernel_rfl
theorem gErrS : Tryd.prog.globalNamed "strconv.ErrSyntax" = some 2 := by kernel_rfl

theorem var_lt {w : World} {n : String} {g : Nat} {v : Value} (hg : Tryd.prog.globalNamed n = some g) (h : w.var? Tryd.prog n = some #[v]) : g < w.heap.size := by
  have := World.var?_cell hg h 0
  exact World.block_lt_of_cell? w ⟨g, 0, none⟩ (u := v) (by simpa using this)

theorem Errs.below {w w' : World} (h : Errs w) (hb : Below w.heap.size w w') : Errs w' := by
  obtain ⟨tp, p, tq, q, h1, h2⟩ := h
  exact ⟨tp, p, tq, q, var?_below hb gErrR (var_lt gErrR h1) h1, var?_below hb gErrS (var_lt gErrS h2) h2⟩

/-- The dynamic type's name that the listed data bear. -/
def starName : String := match (Rows.laid_strconv_ErrRange (H := Unit)) with | .iface n _ => n | _ => default

theorem errRow (u : TypeId) (h : Tryd.prog.typeName? 3 u = some starName) : u = 128 :=
  typeName_ptr_named (nm := "errors.errorString") (by kernel_rfl) (by kernel_rfl) (by decide) u (h.trans (by decide))

theorem Errs.of {w : World} {r : List (String × DataW Unit)} (h : laidMet Tryd.prog (("strconv.ErrRange", Rows.laid_strconv_ErrRange) :: ("strconv.ErrSyntax", Rows.laid_strconv_ErrSyntax) :: r) w) : Errs w := by
  obtain ⟨a0, _, h0, _⟩ := laid_sentinel (nm := starName) (ti := 66) (tp := 128) (te := 130) (ts := 9) h gErrR (by kernel_rfl) Tryd.underlying66 errRow Tryd.underlying128 Tryd.underlying130 rfl rfl Tryd.underlying9 (by kernel_rfl) (by kernel_rfl)
  obtain ⟨a1, _, h1, _⟩ := laid_sentinel (nm := starName) (ti := 66) (tp := 128) (te := 130) (ts := 9) (laidMet.tail h) gErrS (by kernel_rfl) Tryd.underlying66 errRow Tryd.underlying128 Tryd.underlying130 rfl rfl Tryd.underlying9 (by kernel_rfl) (by kernel_rfl)
  exact ⟨_, _, _, _, h0, h1⟩
end Go.Proofs.YtjfoimbeflobkabDoor
