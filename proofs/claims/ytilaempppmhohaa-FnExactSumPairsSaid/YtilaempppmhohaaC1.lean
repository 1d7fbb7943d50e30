/-
  Contracts: vectors. toVector, eqVector.
-/
import Derived.Test.YtilaempppmhohaaA4
import Derived.Test.YtilaempppmhohaaStep
import Derived.Test.YtilaempppmhohaaCsame
import Derived.Below
import Derived.Deep.RegionHeld3
import Derived.Handy
import Derived.Laws.Alloc2
import Derived.Laws.NewBlocks
import Derived.Deep.WholeRow
namespace Go.Proofs.Ytilaempppmhohaa
open Fl Go.RowKit
set_option linter.unusedVariables false

@[go_sem] theorem run_store_float {P : Program} {w : World} {a : Addr} {m : Mode} (k : FloatKind) (b : Nat) : (store a (.float k b) m).run P w = stored P w a (.float k b) m := run_store P w a _ m rfl

theorem setCell_same_of {w : World} {a : Addr} {v : Value} (h : (w.cell? a).isSome = true) : (w.setCell a v).cell? a = some v := by
  obtain ⟨u, hu⟩ := Option.isSome_iff_exists.1 h
  exact World.cell?_setCell_same _ _ _ hu

theorem Below.drewN {B : Nat} {a w : World} (h : Below B a w) (n : Nat) : Below B a (w.drewN n) := ⟨h.os, h.tape, h.output, h.size, h.block⟩

end Go.Proofs.Ytilaempppmhohaa
