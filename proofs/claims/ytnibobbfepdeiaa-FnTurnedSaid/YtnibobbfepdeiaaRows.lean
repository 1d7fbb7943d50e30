/-
  No cell of these rows narrows 'for every input' (looked for: loops, veiled, ifaces, maps, wideKeys, modest, calm, conditions, laid).
  DERIVED. THE GIVEN ROWS OF THIS SEAT. 5 by the template 'for every input the law returns true; each argument reads behind the call as it read before'; 0 by the template 'total and deterministic' (their statements: YtnibobbfepdeiaaTotals.lean).
  GIVEN WITH THE SEED: the statements are not yours to turn. If you find one false, say at which input.
  Laid BY PROGRAM, IN A SANDBOX (cutbox-rows.mjs): the forced cells as the released guide's own fill.sh prints them over the translation d6768d1967f7df38… (all of the seat's roots in one cut). By AI agents, Wed Nov 11 2026. No macro, syntax, notation, axiom, sorry.
-/
import Derived.Test.YtnibobbfepdeiaaChecked
import GoSem.Claim
import GoSem.ClaimJoined
import GoSem.ClaimMapViews
import Derived.JoinedTies
import Derived.KernelRfl
namespace Go.Proofs.Ytnibobbfepdeiaa
/- THE CELL 'sum', in the pinned program and in every row, IS THE sha256 OF THE DUMP (.gsa) THAT YtnibobbfepdeiaaProg.lean LOADS. Nothing in Lean hashes anything: it is a label: what it is worth is what the hold of that sum in a sandbox is worth. -/
noncomputable def Try.pinned : Pinned := { name := "ytnibobbfepdeiaa", sum := "d6768d1967f7df3865f15be1015418f7b58d80373f1c095dea36099e1517051b", checked := Try.checked }
namespace Rows
def none {H : Type} : Left H := { results := [], args := [] }

/-- 'laws.FnExactIsSheet': WHATEVER THE INPUT: true; the input reads as it did. -/
def fnExactIsSheetSpec : ChangeSpec := { name := "fnExactIsSheet", fn := fun _ => fun
  | [d] => { results := [.lit (.bool true)], args := [d] }
  | _ => none }
def fnExactIsSheetRow : OpenClaim := { program := "ytnibobbfepdeiaa", sum := "d6768d1967f7df3865f15be1015418f7b58d80373f1c095dea36099e1517051b", func := "loop.example/g01222/laws.FnExactIsSheet", spec := "fnExactIsSheet", plainKeys := false, apart := false }
def FnExactIsSheetSaid : Prop := fnExactIsSheetRow.holds Try.pinned (OpenSpec.ofChange fnExactIsSheetSpec)

/-- ITS FALSE NEIGHBOUR: 'it returns false'. Refute it at one input. -/
def fnExactIsSheetWrong : ChangeSpec := { name := "fnExactIsSheet", fn := fun _ => fun
  | [d] => { results := [.lit (.bool false)], args := [d] }
  | _ => none }
def FnExactIsSheetWrongFalsely : Prop := fnExactIsSheetRow.holds Try.pinned (OpenSpec.ofChange fnExactIsSheetWrong)

/-- 'laws.FnExactPiecesOf': WHATEVER THE INPUT: true; the input reads as it did. -/
def fnExactPiecesOfSpec : ChangeSpec := { name := "fnExactPiecesOf", fn := fun _ => fun
  | [d] => { results := [.lit (.bool true)], args := [d] }
  | _ => none }
def fnExactPiecesOfRow : OpenClaim := { program := "ytnibobbfepdeiaa", sum := "d6768d1967f7df3865f15be1015418f7b58d80373f1c095dea36099e1517051b", func := "loop.example/g01222/laws.FnExactPiecesOf", spec := "fnExactPiecesOf", unfollowed := true, recurses := true, plainKeys := false, apart := false }
def FnExactPiecesOfSaid : Prop := fnExactPiecesOfRow.holds Try.pinned (OpenSpec.ofChange fnExactPiecesOfSpec)

/-- ITS FALSE NEIGHBOUR: 'it returns false'. Refute it at one input. -/
def fnExactPiecesOfWrong : ChangeSpec := { name := "fnExactPiecesOf", fn := fun _ => fun
  | [d] => { results := [.lit (.bool false)], args := [d] }
  | _ => none }
def FnExactPiecesOfWrongFalsely : Prop := fnExactPiecesOfRow.holds Try.pinned (OpenSpec.ofChange fnExactPiecesOfWrong)

/-- 'laws.FnExactEulerOf': WHATEVER THE INPUT: true; the input reads as it did. -/
def fnExactEulerOfSpec : ChangeSpec := { name := "fnExactEulerOf", fn := fun _ => fun
  | [d] => { results := [.lit (.bool true)], args := [d] }
  | _ => none }
def fnExactEulerOfRow : OpenClaim := { program := "ytnibobbfepdeiaa", sum := "d6768d1967f7df3865f15be1015418f7b58d80373f1c095dea36099e1517051b", func := "loop.example/g01222/laws.FnExactEulerOf", spec := "fnExactEulerOf", unfollowed := true, recurses := true, plainKeys := false, apart := false }
def FnExactEulerOfSaid : Prop := fnExactEulerOfRow.holds Try.pinned (OpenSpec.ofChange fnExactEulerOfSpec)

/-- ITS FALSE NEIGHBOUR: 'it returns false'. Refute it at one input. -/
def fnExactEulerOfWrong : ChangeSpec := { name := "fnExactEulerOf", fn := fun _ => fun
  | [d] => { results := [.lit (.bool false)], args := [d] }
  | _ => none }
def FnExactEulerOfWrongFalsely : Prop := fnExactEulerOfRow.holds Try.pinned (OpenSpec.ofChange fnExactEulerOfWrong)

/-- 'laws.FnExactRingMesh': WHATEVER THE INPUT: true; the input reads as it did. -/
def fnExactRingMeshSpec : ChangeSpec := { name := "fnExactRingMesh", fn := fun _ => fun
  | [d1, d2, d3, d4] => { results := [.lit (.bool true)], args := [d1, d2, d3, d4] }
  | _ => none }
def fnExactRingMeshRow : OpenClaim := { program := "ytnibobbfepdeiaa", sum := "d6768d1967f7df3865f15be1015418f7b58d80373f1c095dea36099e1517051b", func := "loop.example/g01222/laws.FnExactRingMesh", spec := "fnExactRingMesh", inPlace := ["math.Float64frombits", "math.Float64bits"], plainKeys := false, apart := false }
def FnExactRingMeshSaid : Prop := fnExactRingMeshRow.holds Try.pinned (OpenSpec.ofChange fnExactRingMeshSpec)

/-- ITS FALSE NEIGHBOUR: 'it returns false'. Refute it at one input. -/
def fnExactRingMeshWrong : ChangeSpec := { name := "fnExactRingMesh", fn := fun _ => fun
  | [d1, d2, d3, d4] => { results := [.lit (.bool false)], args := [d1, d2, d3, d4] }
  | _ => none }
def FnExactRingMeshWrongFalsely : Prop := fnExactRingMeshRow.holds Try.pinned (OpenSpec.ofChange fnExactRingMeshWrong)

/-- 'laws.FnTurned': WHATEVER THE INPUT: true; the input reads as it did. -/
def fnTurnedSpec : ChangeSpec := { name := "fnTurned", fn := fun _ => fun
  | [d1, d2] => { results := [.lit (.bool true)], args := [d1, d2] }
  | _ => none }
def fnTurnedRow : OpenClaim := { program := "ytnibobbfepdeiaa", sum := "d6768d1967f7df3865f15be1015418f7b58d80373f1c095dea36099e1517051b", func := "loop.example/g01222/laws.FnTurned", spec := "fnTurned", inPlace := ["math.Float64frombits", "math.sqrt", "math.Float64bits"], unfollowed := true, recurses := true, plainKeys := false, apart := false }
def FnTurnedSaid : Prop := fnTurnedRow.holds Try.pinned (OpenSpec.ofChange fnTurnedSpec)

/-- ITS FALSE NEIGHBOUR: 'it returns false'. Refute it at one input. -/
def fnTurnedWrong : ChangeSpec := { name := "fnTurned", fn := fun _ => fun
  | [d1, d2] => { results := [.lit (.bool false)], args := [d1, d2] }
  | _ => none }
def FnTurnedWrongFalsely : Prop := fnTurnedRow.holds Try.pinned (OpenSpec.ofChange fnTurnedWrong)

/- THE SECOND FORM. 'bulk': how many values and letters a reading holds, each counted each time it is reached (what is shared counts as often as it is met; a slice's spare places count too). A statement '..UptoSaid' is the law's where the arguments, and the package variables that the reading takes, are together of bulk at most 1048576: NARROWER than '..Said'. Prove '..Said' where nothing that the law and all that it calls make is longer than what came in: it says more and counts as full. Else prove '..UptoSaid'. A law counts once. -/
mutual
def uptoBulk {H : Type} : DataW H → Nat
  | .lit (.string bytes) => bytes.length + 1
  | .lit _ => 1
  | .nil => 1
  | .ptr d => uptoBulk d + 1
  | .slice elems spare => uptoBulkAll elems + uptoBulkAll spare + 1
  | .agg parts => uptoBulkAll parts + 1
  | .iface _ d => uptoBulk d + 1
  | .map entries => uptoBulkEntries entries + 1
  | .held _ => 1
def uptoBulkAll {H : Type} : List (DataW H) → Nat
  | [] => 0
  | d :: r => uptoBulk d + uptoBulkAll r
def uptoBulkEntries {H : Type} : List (Lit × DataW H) → Nat
  | [] => 0
  | x :: r => uptoBulkEntry x + uptoBulkEntries r
def uptoBulkEntry {H : Type} : Lit × DataW H → Nat
  | (.string bytes, d) => bytes.length + uptoBulk d + 1
  | (_, d) => uptoBulk d + 1
 end
def uptoSmall : (H : Type) → List (DataW H) → Bool := fun _ ds => decide (uptoBulkAll ds ≤ 1048576)
def OpenSpec.upto (s : _root_.Go.ChangeSpec) : _root_.Go.OpenSpec := { _root_.Go.OpenSpec.ofChange s with cond := some uptoSmall }

/-- 'laws.FnExactIsSheet', WHERE WHAT IT READS IS OF BULK AT MOST 1048576: true; the input reads as it did. -/
def fnExactIsSheetUptoRow : OpenClaim := { program := "ytnibobbfepdeiaa", sum := "d6768d1967f7df3865f15be1015418f7b58d80373f1c095dea36099e1517051b", func := "loop.example/g01222/laws.FnExactIsSheet", spec := "fnExactIsSheet", plainKeys := false, apart := false, narrowed := true }
def FnExactIsSheetUptoSaid : Prop := fnExactIsSheetUptoRow.holds Try.pinned (OpenSpec.upto fnExactIsSheetSpec)

/-- 'laws.FnExactPiecesOf', WHERE WHAT IT READS IS OF BULK AT MOST 1048576: true; the input reads as it did. -/
def fnExactPiecesOfUptoRow : OpenClaim := { program := "ytnibobbfepdeiaa", sum := "d6768d1967f7df3865f15be1015418f7b58d80373f1c095dea36099e1517051b", func := "loop.example/g01222/laws.FnExactPiecesOf", spec := "fnExactPiecesOf", unfollowed := true, recurses := true, plainKeys := false, apart := false, narrowed := true }
def FnExactPiecesOfUptoSaid : Prop := fnExactPiecesOfUptoRow.holds Try.pinned (OpenSpec.upto fnExactPiecesOfSpec)

/-- 'laws.FnExactEulerOf', WHERE WHAT IT READS IS OF BULK AT MOST 1048576: true; the input reads as it did. -/
def fnExactEulerOfUptoRow : OpenClaim := { program := "ytnibobbfepdeiaa", sum := "d6768d1967f7df3865f15be1015418f7b58d80373f1c095dea36099e1517051b", func := "loop.example/g01222/laws.FnExactEulerOf", spec := "fnExactEulerOf", unfollowed := true, recurses := true, plainKeys := false, apart := false, narrowed := true }
def FnExactEulerOfUptoSaid : Prop := fnExactEulerOfUptoRow.holds Try.pinned (OpenSpec.upto fnExactEulerOfSpec)

/-- 'laws.FnExactRingMesh', WHERE WHAT IT READS IS OF BULK AT MOST 1048576: true; the input reads as it did. -/
def fnExactRingMeshUptoRow : OpenClaim := { program := "ytnibobbfepdeiaa", sum := "d6768d1967f7df3865f15be1015418f7b58d80373f1c095dea36099e1517051b", func := "loop.example/g01222/laws.FnExactRingMesh", spec := "fnExactRingMesh", inPlace := ["math.Float64frombits", "math.Float64bits"], plainKeys := false, apart := false, narrowed := true }
def FnExactRingMeshUptoSaid : Prop := fnExactRingMeshUptoRow.holds Try.pinned (OpenSpec.upto fnExactRingMeshSpec)

/-- 'laws.FnTurned', WHERE WHAT IT READS IS OF BULK AT MOST 1048576: true; the input reads as it did. -/
def fnTurnedUptoRow : OpenClaim := { program := "ytnibobbfepdeiaa", sum := "d6768d1967f7df3865f15be1015418f7b58d80373f1c095dea36099e1517051b", func := "loop.example/g01222/laws.FnTurned", spec := "fnTurned", inPlace := ["math.Float64frombits", "math.sqrt", "math.Float64bits"], unfollowed := true, recurses := true, plainKeys := false, apart := false, narrowed := true }
def FnTurnedUptoSaid : Prop := fnTurnedUptoRow.holds Try.pinned (OpenSpec.upto fnTurnedSpec)

end Rows
end Go.Proofs.Ytnibobbfepdeiaa
