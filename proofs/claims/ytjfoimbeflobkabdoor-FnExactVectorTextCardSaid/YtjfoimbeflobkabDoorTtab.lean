/-
  What a row's listed variables give the walks: the table of powers of ten, and that it stands while only new memory is made.
-/
import Derived.Test.YtjfoimbeflobkabDoorRows
import Derived.Lib.LaidTab
import Derived.Lib.ItoaMem
import Derived.WalkSmall
import Derived.Stop.LaidErr
import Derived.Deep.Draws
namespace Go.Proofs.YtjfoimbeflobkabDoor
open Go.RowKit
set_option linter.unusedVariables false

/-- The name of the table. -/
def tabName : String := match Rows.fnExactReadListRow.laid with | _ :: _ :: x :: _ => x.1 | _ => default

def Tab (w : World) : Prop := Lib.TabIs Tryd.prog w tabName .u64 Lib.pow10Tab

theorem gTab : Tryd.prog.globalNamed tabName = some 1 := by kernel_rfl

theorem Tab.below {w w' : World} (h : Tab w) (hb : Below w.heap.size w w') : Tab w' := by
  have hc := Lib.TabIs.cell h gTab 0 (by decide)
  exact var?_below hb gTab (World.block_lt_of_cell? _ _ hc) h

theorem Tab.of {w : World} {a b : String × DataW Unit} {r : List (String × DataW Unit)} (h : laidMet Tryd.prog (a :: b :: (tabName, Lib.tabData .u64 Lib.pow10Tab) :: r) w) : Tab w :=
  Lib.tabIs_of_head gTab (t := 112) (e := 64) (n := 20) (by kernel_rfl) (by kernel_rfl) (by kernel_rfl) (by kernel_rfl) (by kernel_rfl) (laidMet.tail (laidMet.tail h))
end Go.Proofs.YtjfoimbeflobkabDoor
