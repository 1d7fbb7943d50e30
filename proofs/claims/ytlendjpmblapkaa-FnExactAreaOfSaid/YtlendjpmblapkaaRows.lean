/-
  No cell of these rows narrows 'for every input' (looked for: loops, veiled, ifaces, maps, wideKeys, modest, calm, conditions, laid).
  DERIVED. THE GIVEN ROWS OF THIS SEAT. 6 by the template 'for every input the law returns true; each argument reads behind the call as it read before'; 0 by the template 'total and deterministic' (their statements: YtlendjpmblapkaaTotals.lean).
  GIVEN WITH THE SEED: the statements are not yours to turn. If you find one false, say at which input.
  Laid BY PROGRAM, IN A SANDBOX (cutbox-rows.mjs): the forced cells as the released guide's own fill.sh prints them over the translation ce7b2115d4fff1a8… (all of the seat's roots in one cut). By AI agents, Wed Nov 11 2026. No macro, syntax, notation, axiom, sorry.
-/
import Derived.Test.YtlendjpmblapkaaChecked
import GoSem.Claim
import GoSem.ClaimJoined
import GoSem.ClaimMapViews
import Derived.JoinedTies
import Derived.KernelRfl
namespace Go.Proofs.Ytlendjpmblapkaa
/- THE CELL 'sum', in the pinned program and in every row, IS THE sha256 OF THE DUMP (.gsa) THAT YtlendjpmblapkaaProg.lean LOADS. Nothing in Lean hashes anything: it is a label: what it is worth is what the hold of that sum in a sandbox is worth. -/
noncomputable def Try.pinned : Pinned := { name := "ytlendjpmblapkaa", sum := "ce7b2115d4fff1a80163a83ed06de60b3539b140fd4f8b95f5c1af1fd607c4c8", checked := Try.checked }
namespace Rows
def none {H : Type} : Left H := { results := [], args := [] }

/-- 'laws.FnExactValidMesh': WHATEVER THE INPUT: true; the input reads as it did. -/
def fnExactValidMeshSpec : ChangeSpec := { name := "fnExactValidMesh", fn := fun _ => fun
  | [d] => { results := [.lit (.bool true)], args := [d] }
  | _ => none }
def fnExactValidMeshRow : OpenClaim := { program := "ytlendjpmblapkaa", sum := "ce7b2115d4fff1a80163a83ed06de60b3539b140fd4f8b95f5c1af1fd607c4c8", func := "loop.example/g01222/laws.FnExactValidMesh", spec := "fnExactValidMesh", apart := false }
def FnExactValidMeshSaid : Prop := fnExactValidMeshRow.holds Try.pinned (OpenSpec.ofChange fnExactValidMeshSpec)

/-- ITS FALSE NEIGHBOUR: 'it returns false'. Refute it at one input. -/
def fnExactValidMeshWrong : ChangeSpec := { name := "fnExactValidMesh", fn := fun _ => fun
  | [d] => { results := [.lit (.bool false)], args := [d] }
  | _ => none }
def FnExactValidMeshWrongFalsely : Prop := fnExactValidMeshRow.holds Try.pinned (OpenSpec.ofChange fnExactValidMeshWrong)

/-- 'laws.FnExactSameMesh': WHATEVER THE INPUT: true; the input reads as it did. -/
def fnExactSameMeshSpec : ChangeSpec := { name := "fnExactSameMesh", fn := fun _ => fun
  | [d1, d2] => { results := [.lit (.bool true)], args := [d1, d2] }
  | _ => none }
def fnExactSameMeshRow : OpenClaim := { program := "ytlendjpmblapkaa", sum := "ce7b2115d4fff1a80163a83ed06de60b3539b140fd4f8b95f5c1af1fd607c4c8", func := "loop.example/g01222/laws.FnExactSameMesh", spec := "fnExactSameMesh", inPlace := ["math.Float32bits", "math.Float64bits"], unfollowed := true, recurses := true, apart := false }
def FnExactSameMeshSaid : Prop := fnExactSameMeshRow.holds Try.pinned (OpenSpec.ofChange fnExactSameMeshSpec)

/-- ITS FALSE NEIGHBOUR: 'it returns false'. Refute it at one input. -/
def fnExactSameMeshWrong : ChangeSpec := { name := "fnExactSameMesh", fn := fun _ => fun
  | [d1, d2] => { results := [.lit (.bool false)], args := [d1, d2] }
  | _ => none }
def FnExactSameMeshWrongFalsely : Prop := fnExactSameMeshRow.holds Try.pinned (OpenSpec.ofChange fnExactSameMeshWrong)

/-- 'laws.FnExactTrianglesAt': WHATEVER THE INPUT: true; the input reads as it did. -/
def fnExactTrianglesAtSpec : ChangeSpec := { name := "fnExactTrianglesAt", fn := fun _ => fun
  | [d1, d2, d3] => { results := [.lit (.bool true)], args := [d1, d2, d3] }
  | _ => none }
def fnExactTrianglesAtRow : OpenClaim := { program := "ytlendjpmblapkaa", sum := "ce7b2115d4fff1a80163a83ed06de60b3539b140fd4f8b95f5c1af1fd607c4c8", func := "loop.example/g01222/laws.FnExactTrianglesAt", spec := "fnExactTrianglesAt", apart := false }
def FnExactTrianglesAtSaid : Prop := fnExactTrianglesAtRow.holds Try.pinned (OpenSpec.ofChange fnExactTrianglesAtSpec)

/-- ITS FALSE NEIGHBOUR: 'it returns false'. Refute it at one input. -/
def fnExactTrianglesAtWrong : ChangeSpec := { name := "fnExactTrianglesAt", fn := fun _ => fun
  | [d1, d2, d3] => { results := [.lit (.bool false)], args := [d1, d2, d3] }
  | _ => none }
def FnExactTrianglesAtWrongFalsely : Prop := fnExactTrianglesAtRow.holds Try.pinned (OpenSpec.ofChange fnExactTrianglesAtWrong)

/-- 'laws.FnExactTrianglesOf': WHATEVER THE INPUT: true; the input reads as it did. -/
def fnExactTrianglesOfSpec : ChangeSpec := { name := "fnExactTrianglesOf", fn := fun _ => fun
  | [d1, d2] => { results := [.lit (.bool true)], args := [d1, d2] }
  | _ => none }
def fnExactTrianglesOfRow : OpenClaim := { program := "ytlendjpmblapkaa", sum := "ce7b2115d4fff1a80163a83ed06de60b3539b140fd4f8b95f5c1af1fd607c4c8", func := "loop.example/g01222/laws.FnExactTrianglesOf", spec := "fnExactTrianglesOf", apart := false }
def FnExactTrianglesOfSaid : Prop := fnExactTrianglesOfRow.holds Try.pinned (OpenSpec.ofChange fnExactTrianglesOfSpec)

/-- ITS FALSE NEIGHBOUR: 'it returns false'. Refute it at one input. -/
def fnExactTrianglesOfWrong : ChangeSpec := { name := "fnExactTrianglesOf", fn := fun _ => fun
  | [d1, d2] => { results := [.lit (.bool false)], args := [d1, d2] }
  | _ => none }
def FnExactTrianglesOfWrongFalsely : Prop := fnExactTrianglesOfRow.holds Try.pinned (OpenSpec.ofChange fnExactTrianglesOfWrong)

/-- 'laws.FnExactNormalOf': WHATEVER THE INPUT: true; the input reads as it did. -/
def fnExactNormalOfSpec : ChangeSpec := { name := "fnExactNormalOf", fn := fun _ => fun
  | [d1, d2] => { results := [.lit (.bool true)], args := [d1, d2] }
  | _ => none }
def fnExactNormalOfRow : OpenClaim := { program := "ytlendjpmblapkaa", sum := "ce7b2115d4fff1a80163a83ed06de60b3539b140fd4f8b95f5c1af1fd607c4c8", func := "loop.example/g01222/laws.FnExactNormalOf", spec := "fnExactNormalOf", apart := false }
def FnExactNormalOfSaid : Prop := fnExactNormalOfRow.holds Try.pinned (OpenSpec.ofChange fnExactNormalOfSpec)

/-- ITS FALSE NEIGHBOUR: 'it returns false'. Refute it at one input. -/
def fnExactNormalOfWrong : ChangeSpec := { name := "fnExactNormalOf", fn := fun _ => fun
  | [d1, d2] => { results := [.lit (.bool false)], args := [d1, d2] }
  | _ => none }
def FnExactNormalOfWrongFalsely : Prop := fnExactNormalOfRow.holds Try.pinned (OpenSpec.ofChange fnExactNormalOfWrong)

/-- 'laws.FnExactAreaOf': WHATEVER THE INPUT: true; the input reads as it did. -/
def fnExactAreaOfSpec : ChangeSpec := { name := "fnExactAreaOf", fn := fun _ => fun
  | [d] => { results := [.lit (.bool true)], args := [d] }
  | _ => none }
def fnExactAreaOfRow : OpenClaim := { program := "ytlendjpmblapkaa", sum := "ce7b2115d4fff1a80163a83ed06de60b3539b140fd4f8b95f5c1af1fd607c4c8", func := "loop.example/g01222/laws.FnExactAreaOf", spec := "fnExactAreaOf", inPlace := ["math.sqrt"], apart := false }
def FnExactAreaOfSaid : Prop := fnExactAreaOfRow.holds Try.pinned (OpenSpec.ofChange fnExactAreaOfSpec)

/-- ITS FALSE NEIGHBOUR: 'it returns false'. Refute it at one input. -/
def fnExactAreaOfWrong : ChangeSpec := { name := "fnExactAreaOf", fn := fun _ => fun
  | [d] => { results := [.lit (.bool false)], args := [d] }
  | _ => none }
def FnExactAreaOfWrongFalsely : Prop := fnExactAreaOfRow.holds Try.pinned (OpenSpec.ofChange fnExactAreaOfWrong)

/- THE SECOND FORM. 'bulk': how many values and letters a reading holds, each counted each time it is reached (what is shared counts as often as it is met; a slice's spare places count too). A statement '..UptoSaid' is the law's where the arguments, and the package variables that the reading takes, are together of bulk at most 1048576: NARROWER than '..Said'. Prove '..Said' where nothing that the law and all that it calls make is longer than what came in: it says more and counts as full. Else prove '..UptoSaid'. A law counts once. -/
mutual
def uptoBulk {H : Type} : DataW H → Nat
  | .lit (.string bytes) => bytes.length + 1
  | .lit _ => 1
  | .nil => 1
  | .ptr d => uptoBulk d + 1
  | .slice elems spare => uptoBulkAll elems + uptoBulkAll spare + 1
  | .agg parts => uptoBulkAll parts + 1
  | .iface _ d => uptoBulk d + 1
  | .map entries => uptoBulkEntries entries + 1
  | .held _ => 1
def uptoBulkAll {H : Type} : List (DataW H) → Nat
  | [] => 0
  | d :: r => uptoBulk d + uptoBulkAll r
def uptoBulkEntries {H : Type} : List (Lit × DataW H) → Nat
  | [] => 0
  | x :: r => uptoBulkEntry x + uptoBulkEntries r
def uptoBulkEntry {H : Type} : Lit × DataW H → Nat
  | (.string bytes, d) => bytes.length + uptoBulk d + 1
  | (_, d) => uptoBulk d + 1
 end
def uptoSmall : (H : Type) → List (DataW H) → Bool := fun _ ds => decide (uptoBulkAll ds ≤ 1048576)
def OpenSpec.upto (s : _root_.Go.ChangeSpec) : _root_.Go.OpenSpec := { _root_.Go.OpenSpec.ofChange s with cond := some uptoSmall }

/-- 'laws.FnExactValidMesh', WHERE WHAT IT READS IS OF BULK AT MOST 1048576: true; the input reads as it did. -/
def fnExactValidMeshUptoRow : OpenClaim := { program := "ytlendjpmblapkaa", sum := "ce7b2115d4fff1a80163a83ed06de60b3539b140fd4f8b95f5c1af1fd607c4c8", func := "loop.example/g01222/laws.FnExactValidMesh", spec := "fnExactValidMesh", apart := false, narrowed := true }
def FnExactValidMeshUptoSaid : Prop := fnExactValidMeshUptoRow.holds Try.pinned (OpenSpec.upto fnExactValidMeshSpec)

/-- 'laws.FnExactSameMesh', WHERE WHAT IT READS IS OF BULK AT MOST 1048576: true; the input reads as it did. -/
def fnExactSameMeshUptoRow : OpenClaim := { program := "ytlendjpmblapkaa", sum := "ce7b2115d4fff1a80163a83ed06de60b3539b140fd4f8b95f5c1af1fd607c4c8", func := "loop.example/g01222/laws.FnExactSameMesh", spec := "fnExactSameMesh", inPlace := ["math.Float32bits", "math.Float64bits"], unfollowed := true, recurses := true, apart := false, narrowed := true }
def FnExactSameMeshUptoSaid : Prop := fnExactSameMeshUptoRow.holds Try.pinned (OpenSpec.upto fnExactSameMeshSpec)

/-- 'laws.FnExactTrianglesAt', WHERE WHAT IT READS IS OF BULK AT MOST 1048576: true; the input reads as it did. -/
def fnExactTrianglesAtUptoRow : OpenClaim := { program := "ytlendjpmblapkaa", sum := "ce7b2115d4fff1a80163a83ed06de60b3539b140fd4f8b95f5c1af1fd607c4c8", func := "loop.example/g01222/laws.FnExactTrianglesAt", spec := "fnExactTrianglesAt", apart := false, narrowed := true }
def FnExactTrianglesAtUptoSaid : Prop := fnExactTrianglesAtUptoRow.holds Try.pinned (OpenSpec.upto fnExactTrianglesAtSpec)

/-- 'laws.FnExactTrianglesOf', WHERE WHAT IT READS IS OF BULK AT MOST 1048576: true; the input reads as it did. -/
def fnExactTrianglesOfUptoRow : OpenClaim := { program := "ytlendjpmblapkaa", sum := "ce7b2115d4fff1a80163a83ed06de60b3539b140fd4f8b95f5c1af1fd607c4c8", func := "loop.example/g01222/laws.FnExactTrianglesOf", spec := "fnExactTrianglesOf", apart := false, narrowed := true }
def FnExactTrianglesOfUptoSaid : Prop := fnExactTrianglesOfUptoRow.holds Try.pinned (OpenSpec.upto fnExactTrianglesOfSpec)

/-- 'laws.FnExactNormalOf', WHERE WHAT IT READS IS OF BULK AT MOST 1048576: true; the input reads as it did. -/
def fnExactNormalOfUptoRow : OpenClaim := { program := "ytlendjpmblapkaa", sum := "ce7b2115d4fff1a80163a83ed06de60b3539b140fd4f8b95f5c1af1fd607c4c8", func := "loop.example/g01222/laws.FnExactNormalOf", spec := "fnExactNormalOf", apart := false, narrowed := true }
def FnExactNormalOfUptoSaid : Prop := fnExactNormalOfUptoRow.holds Try.pinned (OpenSpec.upto fnExactNormalOfSpec)

/-- 'laws.FnExactAreaOf', WHERE WHAT IT READS IS OF BULK AT MOST 1048576: true; the input reads as it did. -/
def fnExactAreaOfUptoRow : OpenClaim := { program := "ytlendjpmblapkaa", sum := "ce7b2115d4fff1a80163a83ed06de60b3539b140fd4f8b95f5c1af1fd607c4c8", func := "loop.example/g01222/laws.FnExactAreaOf", spec := "fnExactAreaOf", inPlace := ["math.sqrt"], apart := false, narrowed := true }
def FnExactAreaOfUptoSaid : Prop := fnExactAreaOfUptoRow.holds Try.pinned (OpenSpec.upto fnExactAreaOfSpec)

end Rows
end Go.Proofs.Ytlendjpmblapkaa
