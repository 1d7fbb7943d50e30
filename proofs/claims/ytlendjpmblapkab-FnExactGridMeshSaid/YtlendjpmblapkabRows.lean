/-
  No cell of these rows narrows 'for every input' (looked for: loops, veiled, ifaces, maps, wideKeys, modest, calm, conditions, laid).
  DERIVED. THE GIVEN ROWS OF THIS SEAT. 6 by the template 'for every input the law returns true; each argument reads behind the call as it read before'; 0 by the template 'total and deterministic' (their statements: YtlendjpmblapkabTotals.lean).
  GIVEN WITH THE SEED: the statements are not yours to turn. If you find one false, say at which input.
  Laid BY PROGRAM, IN A SANDBOX (cutbox-rows.mjs): the forced cells as the released guide's own fill.sh prints them over the translation 4c70a4e9bfd1cc0e… (all of the seat's roots in one cut). By AI agents, Wed Nov 11 2026. No macro, syntax, notation, axiom, sorry.
-/
import Derived.Test.YtlendjpmblapkabChecked
import GoSem.Claim
import GoSem.ClaimJoined
import GoSem.ClaimMapViews
import Derived.JoinedTies
import Derived.KernelRfl
namespace Go.Proofs.Ytlendjpmblapkab
/- THE CELL 'sum', in the pinned program and in every row, IS THE sha256 OF THE DUMP (.gsa) THAT YtlendjpmblapkabProg.lean LOADS. Nothing in Lean hashes anything: it is a label: what it is worth is what the hold of that sum in a sandbox is worth. -/
noncomputable def Try.pinned : Pinned := { name := "ytlendjpmblapkab", sum := "4c70a4e9bfd1cc0edb61ace2cdbc0944d5ceb62d94db1219040e0fadd9ede381", checked := Try.checked }
namespace Rows
def none {H : Type} : Left H := { results := [], args := [] }

/-- 'laws.FnExactTurnMesh': WHATEVER THE INPUT: true; the input reads as it did. -/
def fnExactTurnMeshSpec : ChangeSpec := { name := "fnExactTurnMesh", fn := fun _ => fun
  | [d] => { results := [.lit (.bool true)], args := [d] }
  | _ => none }
def fnExactTurnMeshRow : OpenClaim := { program := "ytlendjpmblapkab", sum := "4c70a4e9bfd1cc0edb61ace2cdbc0944d5ceb62d94db1219040e0fadd9ede381", func := "loop.example/g01222/laws.FnExactTurnMesh", spec := "fnExactTurnMesh", apart := false }
def FnExactTurnMeshSaid : Prop := fnExactTurnMeshRow.holds Try.pinned (OpenSpec.ofChange fnExactTurnMeshSpec)

/-- ITS FALSE NEIGHBOUR: 'it returns false'. Refute it at one input. -/
def fnExactTurnMeshWrong : ChangeSpec := { name := "fnExactTurnMesh", fn := fun _ => fun
  | [d] => { results := [.lit (.bool false)], args := [d] }
  | _ => none }
def FnExactTurnMeshWrongFalsely : Prop := fnExactTurnMeshRow.holds Try.pinned (OpenSpec.ofChange fnExactTurnMeshWrong)

/-- 'laws.FnExactMoveMesh': WHATEVER THE INPUT: true; the input reads as it did. -/
def fnExactMoveMeshSpec : ChangeSpec := { name := "fnExactMoveMesh", fn := fun _ => fun
  | [d1, d2] => { results := [.lit (.bool true)], args := [d1, d2] }
  | _ => none }
def fnExactMoveMeshRow : OpenClaim := { program := "ytlendjpmblapkab", sum := "4c70a4e9bfd1cc0edb61ace2cdbc0944d5ceb62d94db1219040e0fadd9ede381", func := "loop.example/g01222/laws.FnExactMoveMesh", spec := "fnExactMoveMesh", unfollowed := true, recurses := true, apart := false }
def FnExactMoveMeshSaid : Prop := fnExactMoveMeshRow.holds Try.pinned (OpenSpec.ofChange fnExactMoveMeshSpec)

/-- ITS FALSE NEIGHBOUR: 'it returns false'. Refute it at one input. -/
def fnExactMoveMeshWrong : ChangeSpec := { name := "fnExactMoveMesh", fn := fun _ => fun
  | [d1, d2] => { results := [.lit (.bool false)], args := [d1, d2] }
  | _ => none }
def FnExactMoveMeshWrongFalsely : Prop := fnExactMoveMeshRow.holds Try.pinned (OpenSpec.ofChange fnExactMoveMeshWrong)

/-- 'laws.FnExactScaleMesh': WHATEVER THE INPUT: true; the input reads as it did. -/
def fnExactScaleMeshSpec : ChangeSpec := { name := "fnExactScaleMesh", fn := fun _ => fun
  | [d1, d2] => { results := [.lit (.bool true)], args := [d1, d2] }
  | _ => none }
def fnExactScaleMeshRow : OpenClaim := { program := "ytlendjpmblapkab", sum := "4c70a4e9bfd1cc0edb61ace2cdbc0944d5ceb62d94db1219040e0fadd9ede381", func := "loop.example/g01222/laws.FnExactScaleMesh", spec := "fnExactScaleMesh", unfollowed := true, recurses := true, apart := false }
def FnExactScaleMeshSaid : Prop := fnExactScaleMeshRow.holds Try.pinned (OpenSpec.ofChange fnExactScaleMeshSpec)

/-- ITS FALSE NEIGHBOUR: 'it returns false'. Refute it at one input. -/
def fnExactScaleMeshWrong : ChangeSpec := { name := "fnExactScaleMesh", fn := fun _ => fun
  | [d1, d2] => { results := [.lit (.bool false)], args := [d1, d2] }
  | _ => none }
def FnExactScaleMeshWrongFalsely : Prop := fnExactScaleMeshRow.holds Try.pinned (OpenSpec.ofChange fnExactScaleMeshWrong)

/-- 'laws.FnExactJoinMeshes': WHATEVER THE INPUT: true; the input reads as it did. -/
def fnExactJoinMeshesSpec : ChangeSpec := { name := "fnExactJoinMeshes", fn := fun _ => fun
  | [d1, d2] => { results := [.lit (.bool true)], args := [d1, d2] }
  | _ => none }
def fnExactJoinMeshesRow : OpenClaim := { program := "ytlendjpmblapkab", sum := "4c70a4e9bfd1cc0edb61ace2cdbc0944d5ceb62d94db1219040e0fadd9ede381", func := "loop.example/g01222/laws.FnExactJoinMeshes", spec := "fnExactJoinMeshes", apart := false }
def FnExactJoinMeshesSaid : Prop := fnExactJoinMeshesRow.holds Try.pinned (OpenSpec.ofChange fnExactJoinMeshesSpec)

/-- ITS FALSE NEIGHBOUR: 'it returns false'. Refute it at one input. -/
def fnExactJoinMeshesWrong : ChangeSpec := { name := "fnExactJoinMeshes", fn := fun _ => fun
  | [d1, d2] => { results := [.lit (.bool false)], args := [d1, d2] }
  | _ => none }
def FnExactJoinMeshesWrongFalsely : Prop := fnExactJoinMeshesRow.holds Try.pinned (OpenSpec.ofChange fnExactJoinMeshesWrong)

/-- 'laws.FnExactBoxMesh': WHATEVER THE INPUT: true; the input reads as it did. -/
def fnExactBoxMeshSpec : ChangeSpec := { name := "fnExactBoxMesh", fn := fun _ => fun
  | [d] => { results := [.lit (.bool true)], args := [d] }
  | _ => none }
def fnExactBoxMeshRow : OpenClaim := { program := "ytlendjpmblapkab", sum := "4c70a4e9bfd1cc0edb61ace2cdbc0944d5ceb62d94db1219040e0fadd9ede381", func := "loop.example/g01222/laws.FnExactBoxMesh", spec := "fnExactBoxMesh", apart := false }
def FnExactBoxMeshSaid : Prop := fnExactBoxMeshRow.holds Try.pinned (OpenSpec.ofChange fnExactBoxMeshSpec)

/-- ITS FALSE NEIGHBOUR: 'it returns false'. Refute it at one input. -/
def fnExactBoxMeshWrong : ChangeSpec := { name := "fnExactBoxMesh", fn := fun _ => fun
  | [d] => { results := [.lit (.bool false)], args := [d] }
  | _ => none }
def FnExactBoxMeshWrongFalsely : Prop := fnExactBoxMeshRow.holds Try.pinned (OpenSpec.ofChange fnExactBoxMeshWrong)

/-- 'laws.FnExactGridMesh': WHATEVER THE INPUT: true; the input reads as it did. -/
def fnExactGridMeshSpec : ChangeSpec := { name := "fnExactGridMesh", fn := fun _ => fun
  | [d1, d2, d3] => { results := [.lit (.bool true)], args := [d1, d2, d3] }
  | _ => none }
def fnExactGridMeshRow : OpenClaim := { program := "ytlendjpmblapkab", sum := "4c70a4e9bfd1cc0edb61ace2cdbc0944d5ceb62d94db1219040e0fadd9ede381", func := "loop.example/g01222/laws.FnExactGridMesh", spec := "fnExactGridMesh", apart := false }
def FnExactGridMeshSaid : Prop := fnExactGridMeshRow.holds Try.pinned (OpenSpec.ofChange fnExactGridMeshSpec)

/-- ITS FALSE NEIGHBOUR: 'it returns false'. Refute it at one input. -/
def fnExactGridMeshWrong : ChangeSpec := { name := "fnExactGridMesh", fn := fun _ => fun
  | [d1, d2, d3] => { results := [.lit (.bool false)], args := [d1, d2, d3] }
  | _ => none }
def FnExactGridMeshWrongFalsely : Prop := fnExactGridMeshRow.holds Try.pinned (OpenSpec.ofChange fnExactGridMeshWrong)

/- THE SECOND FORM. 'bulk': how many values and letters a reading holds, each counted each time it is reached (what is shared counts as often as it is met; a slice's spare places count too). A statement '..UptoSaid' is the law's where the arguments, and the package variables that the reading takes, are together of bulk at most 1048576: NARROWER than '..Said'. Prove '..Said' where nothing that the law and all that it calls make is longer than what came in: it says more and counts as full. Else prove '..UptoSaid'. A law counts once. -/
mutual
def uptoBulk {H : Type} : DataW H → Nat
  | .lit (.string bytes) => bytes.length + 1
  | .lit _ => 1
  | .nil => 1
  | .ptr d => uptoBulk d + 1
  | .slice elems spare => uptoBulkAll elems + uptoBulkAll spare + 1
  | .agg parts => uptoBulkAll parts + 1
  | .iface _ d => uptoBulk d + 1
  | .map entries => uptoBulkEntries entries + 1
  | .held _ => 1
def uptoBulkAll {H : Type} : List (DataW H) → Nat
  | [] => 0
  | d :: r => uptoBulk d + uptoBulkAll r
def uptoBulkEntries {H : Type} : List (Lit × DataW H) → Nat
  | [] => 0
  | x :: r => uptoBulkEntry x + uptoBulkEntries r
def uptoBulkEntry {H : Type} : Lit × DataW H → Nat
  | (.string bytes, d) => bytes.length + uptoBulk d + 1
  | (_, d) => uptoBulk d + 1
 end
def uptoSmall : (H : Type) → List (DataW H) → Bool := fun _ ds => decide (uptoBulkAll ds ≤ 1048576)
def OpenSpec.upto (s : _root_.Go.ChangeSpec) : _root_.Go.OpenSpec := { _root_.Go.OpenSpec.ofChange s with cond := some uptoSmall }

/-- 'laws.FnExactTurnMesh', WHERE WHAT IT READS IS OF BULK AT MOST 1048576: true; the input reads as it did. -/
def fnExactTurnMeshUptoRow : OpenClaim := { program := "ytlendjpmblapkab", sum := "4c70a4e9bfd1cc0edb61ace2cdbc0944d5ceb62d94db1219040e0fadd9ede381", func := "loop.example/g01222/laws.FnExactTurnMesh", spec := "fnExactTurnMesh", apart := false, narrowed := true }
def FnExactTurnMeshUptoSaid : Prop := fnExactTurnMeshUptoRow.holds Try.pinned (OpenSpec.upto fnExactTurnMeshSpec)

/-- 'laws.FnExactMoveMesh', WHERE WHAT IT READS IS OF BULK AT MOST 1048576: true; the input reads as it did. -/
def fnExactMoveMeshUptoRow : OpenClaim := { program := "ytlendjpmblapkab", sum := "4c70a4e9bfd1cc0edb61ace2cdbc0944d5ceb62d94db1219040e0fadd9ede381", func := "loop.example/g01222/laws.FnExactMoveMesh", spec := "fnExactMoveMesh", unfollowed := true, recurses := true, apart := false, narrowed := true }
def FnExactMoveMeshUptoSaid : Prop := fnExactMoveMeshUptoRow.holds Try.pinned (OpenSpec.upto fnExactMoveMeshSpec)

/-- 'laws.FnExactScaleMesh', WHERE WHAT IT READS IS OF BULK AT MOST 1048576: true; the input reads as it did. -/
def fnExactScaleMeshUptoRow : OpenClaim := { program := "ytlendjpmblapkab", sum := "4c70a4e9bfd1cc0edb61ace2cdbc0944d5ceb62d94db1219040e0fadd9ede381", func := "loop.example/g01222/laws.FnExactScaleMesh", spec := "fnExactScaleMesh", unfollowed := true, recurses := true, apart := false, narrowed := true }
def FnExactScaleMeshUptoSaid : Prop := fnExactScaleMeshUptoRow.holds Try.pinned (OpenSpec.upto fnExactScaleMeshSpec)

/-- 'laws.FnExactJoinMeshes', WHERE WHAT IT READS IS OF BULK AT MOST 1048576: true; the input reads as it did. -/
def fnExactJoinMeshesUptoRow : OpenClaim := { program := "ytlendjpmblapkab", sum := "4c70a4e9bfd1cc0edb61ace2cdbc0944d5ceb62d94db1219040e0fadd9ede381", func := "loop.example/g01222/laws.FnExactJoinMeshes", spec := "fnExactJoinMeshes", apart := false, narrowed := true }
def FnExactJoinMeshesUptoSaid : Prop := fnExactJoinMeshesUptoRow.holds Try.pinned (OpenSpec.upto fnExactJoinMeshesSpec)

/-- 'laws.FnExactBoxMesh', WHERE WHAT IT READS IS OF BULK AT MOST 1048576: true; the input reads as it did. -/
def fnExactBoxMeshUptoRow : OpenClaim := { program := "ytlendjpmblapkab", sum := "4c70a4e9bfd1cc0edb61ace2cdbc0944d5ceb62d94db1219040e0fadd9ede381", func := "loop.example/g01222/laws.FnExactBoxMesh", spec := "fnExactBoxMesh", apart := false, narrowed := true }
def FnExactBoxMeshUptoSaid : Prop := fnExactBoxMeshUptoRow.holds Try.pinned (OpenSpec.upto fnExactBoxMeshSpec)

/-- 'laws.FnExactGridMesh', WHERE WHAT IT READS IS OF BULK AT MOST 1048576: true; the input reads as it did. -/
def fnExactGridMeshUptoRow : OpenClaim := { program := "ytlendjpmblapkab", sum := "4c70a4e9bfd1cc0edb61ace2cdbc0944d5ceb62d94db1219040e0fadd9ede381", func := "loop.example/g01222/laws.FnExactGridMesh", spec := "fnExactGridMesh", apart := false, narrowed := true }
def FnExactGridMeshUptoSaid : Prop := fnExactGridMeshUptoRow.holds Try.pinned (OpenSpec.upto fnExactGridMeshSpec)

end Rows
end Go.Proofs.Ytlendjpmblapkab
