/-
  No cell of these rows narrows 'for every input' (looked for: loops, veiled, ifaces, maps, wideKeys, modest, calm, conditions, laid).
  DERIVED. THE GIVEN ROWS OF THIS SEAT. 6 by the template 'for every input the law returns true; each argument reads behind the call as it read before'; 0 by the template 'total and deterministic' (their statements: YtmbfdpplkbdpiadTotals.lean).
  GIVEN WITH THE SEED: the statements are not yours to turn. If you find one false, say at which input.
  Laid BY PROGRAM, IN A SANDBOX (cutbox-rows.mjs): the forced cells as the released guide's own fill.sh prints them over the translation aabcc8343bf77dc9… (all of the seat's roots in one cut). By AI agents, Wed Nov 11 2026. No macro, syntax, notation, axiom, sorry.
-/
import Derived.Test.YtmbfdpplkbdpiadChecked
import GoSem.Claim
import GoSem.ClaimJoined
import GoSem.ClaimMapViews
import Derived.JoinedTies
import Derived.KernelRfl
namespace Go.Proofs.Ytmbfdpplkbdpiad
/- THE CELL 'sum', in the pinned program and in every row, IS THE sha256 OF THE DUMP (.gsa) THAT YtmbfdpplkbdpiadProg.lean LOADS. Nothing in Lean hashes anything: it is a label: what it is worth is what the hold of that sum in a sandbox is worth. -/
noncomputable def Try.pinned : Pinned := { name := "ytmbfdpplkbdpiad", sum := "aabcc8343bf77dc969af46e5287bc81395582ab5549e63f2ed744e5943485724", checked := Try.checked }
namespace Rows
def none {H : Type} : Left H := { results := [], args := [] }

/-- 'laws.FnExactBetweenVectors': WHATEVER THE INPUT: true; the input reads as it did. -/
def fnExactBetweenVectorsSpec : ChangeSpec := { name := "fnExactBetweenVectors", fn := fun _ => fun
  | [d1, d2, d3] => { results := [.lit (.bool true)], args := [d1, d2, d3] }
  | _ => none }
def fnExactBetweenVectorsRow : OpenClaim := { program := "ytmbfdpplkbdpiad", sum := "aabcc8343bf77dc969af46e5287bc81395582ab5549e63f2ed744e5943485724", func := "loop.example/g01222/laws.FnExactBetweenVectors", spec := "fnExactBetweenVectors", apart := false }
def FnExactBetweenVectorsSaid : Prop := fnExactBetweenVectorsRow.holds Try.pinned (OpenSpec.ofChange fnExactBetweenVectorsSpec)

/-- ITS FALSE NEIGHBOUR: 'it returns false'. Refute it at one input. -/
def fnExactBetweenVectorsWrong : ChangeSpec := { name := "fnExactBetweenVectors", fn := fun _ => fun
  | [d1, d2, d3] => { results := [.lit (.bool false)], args := [d1, d2, d3] }
  | _ => none }
def FnExactBetweenVectorsWrongFalsely : Prop := fnExactBetweenVectorsRow.holds Try.pinned (OpenSpec.ofChange fnExactBetweenVectorsWrong)

/-- 'laws.FnExactLongOf': WHATEVER THE INPUT: true; the input reads as it did. -/
def fnExactLongOfSpec : ChangeSpec := { name := "fnExactLongOf", fn := fun _ => fun
  | [d] => { results := [.lit (.bool true)], args := [d] }
  | _ => none }
def fnExactLongOfRow : OpenClaim := { program := "ytmbfdpplkbdpiad", sum := "aabcc8343bf77dc969af46e5287bc81395582ab5549e63f2ed744e5943485724", func := "loop.example/g01222/laws.FnExactLongOf", spec := "fnExactLongOf", inPlace := ["math.sqrt"], apart := false }
def FnExactLongOfSaid : Prop := fnExactLongOfRow.holds Try.pinned (OpenSpec.ofChange fnExactLongOfSpec)

/-- ITS FALSE NEIGHBOUR: 'it returns false'. Refute it at one input. -/
def fnExactLongOfWrong : ChangeSpec := { name := "fnExactLongOf", fn := fun _ => fun
  | [d] => { results := [.lit (.bool false)], args := [d] }
  | _ => none }
def FnExactLongOfWrongFalsely : Prop := fnExactLongOfRow.holds Try.pinned (OpenSpec.ofChange fnExactLongOfWrong)

/-- 'laws.FnExactDotNumbers': WHATEVER THE INPUT: true; the input reads as it did. -/
def fnExactDotNumbersSpec : ChangeSpec := { name := "fnExactDotNumbers", fn := fun _ => fun
  | [d1, d2] => { results := [.lit (.bool true)], args := [d1, d2] }
  | _ => none }
def fnExactDotNumbersRow : OpenClaim := { program := "ytmbfdpplkbdpiad", sum := "aabcc8343bf77dc969af46e5287bc81395582ab5549e63f2ed744e5943485724", func := "loop.example/g01222/laws.FnExactDotNumbers", spec := "fnExactDotNumbers", apart := false }
def FnExactDotNumbersSaid : Prop := fnExactDotNumbersRow.holds Try.pinned (OpenSpec.ofChange fnExactDotNumbersSpec)

/-- ITS FALSE NEIGHBOUR: 'it returns false'. Refute it at one input. -/
def fnExactDotNumbersWrong : ChangeSpec := { name := "fnExactDotNumbers", fn := fun _ => fun
  | [d1, d2] => { results := [.lit (.bool false)], args := [d1, d2] }
  | _ => none }
def FnExactDotNumbersWrongFalsely : Prop := fnExactDotNumbersRow.holds Try.pinned (OpenSpec.ofChange fnExactDotNumbersWrong)

/-- 'laws.FnExactSumNumbers': WHATEVER THE INPUT: true; the input reads as it did. -/
def fnExactSumNumbersSpec : ChangeSpec := { name := "fnExactSumNumbers", fn := fun _ => fun
  | [d] => { results := [.lit (.bool true)], args := [d] }
  | _ => none }
def fnExactSumNumbersRow : OpenClaim := { program := "ytmbfdpplkbdpiad", sum := "aabcc8343bf77dc969af46e5287bc81395582ab5549e63f2ed744e5943485724", func := "loop.example/g01222/laws.FnExactSumNumbers", spec := "fnExactSumNumbers", apart := false }
def FnExactSumNumbersSaid : Prop := fnExactSumNumbersRow.holds Try.pinned (OpenSpec.ofChange fnExactSumNumbersSpec)

/-- ITS FALSE NEIGHBOUR: 'it returns false'. Refute it at one input. -/
def fnExactSumNumbersWrong : ChangeSpec := { name := "fnExactSumNumbers", fn := fun _ => fun
  | [d] => { results := [.lit (.bool false)], args := [d] }
  | _ => none }
def FnExactSumNumbersWrongFalsely : Prop := fnExactSumNumbersRow.holds Try.pinned (OpenSpec.ofChange fnExactSumNumbersWrong)

/-- 'laws.FnExactSumPairs': WHATEVER THE INPUT: true; the input reads as it did. -/
def fnExactSumPairsSpec : ChangeSpec := { name := "fnExactSumPairs", fn := fun _ => fun
  | [d] => { results := [.lit (.bool true)], args := [d] }
  | _ => none }
def fnExactSumPairsRow : OpenClaim := { program := "ytmbfdpplkbdpiad", sum := "aabcc8343bf77dc969af46e5287bc81395582ab5549e63f2ed744e5943485724", func := "loop.example/g01222/laws.FnExactSumPairs", spec := "fnExactSumPairs", recurses := true, apart := false }
def FnExactSumPairsSaid : Prop := fnExactSumPairsRow.holds Try.pinned (OpenSpec.ofChange fnExactSumPairsSpec)

/-- ITS FALSE NEIGHBOUR: 'it returns false'. Refute it at one input. -/
def fnExactSumPairsWrong : ChangeSpec := { name := "fnExactSumPairs", fn := fun _ => fun
  | [d] => { results := [.lit (.bool false)], args := [d] }
  | _ => none }
def FnExactSumPairsWrongFalsely : Prop := fnExactSumPairsRow.holds Try.pinned (OpenSpec.ofChange fnExactSumPairsWrong)

/-- 'laws.FnExactAngleTurns': WHATEVER THE INPUT: true; the input reads as it did. -/
def fnExactAngleTurnsSpec : ChangeSpec := { name := "fnExactAngleTurns", fn := fun _ => fun
  | [d1, d2] => { results := [.lit (.bool true)], args := [d1, d2] }
  | _ => none }
def fnExactAngleTurnsRow : OpenClaim := { program := "ytmbfdpplkbdpiad", sum := "aabcc8343bf77dc969af46e5287bc81395582ab5549e63f2ed744e5943485724", func := "loop.example/g01222/laws.FnExactAngleTurns", spec := "fnExactAngleTurns", inPlace := ["math.Float64frombits", "math.Float64bits", "math.sqrt"], apart := false }
def FnExactAngleTurnsSaid : Prop := fnExactAngleTurnsRow.holds Try.pinned (OpenSpec.ofChange fnExactAngleTurnsSpec)

/-- ITS FALSE NEIGHBOUR: 'it returns false'. Refute it at one input. -/
def fnExactAngleTurnsWrong : ChangeSpec := { name := "fnExactAngleTurns", fn := fun _ => fun
  | [d1, d2] => { results := [.lit (.bool false)], args := [d1, d2] }
  | _ => none }
def FnExactAngleTurnsWrongFalsely : Prop := fnExactAngleTurnsRow.holds Try.pinned (OpenSpec.ofChange fnExactAngleTurnsWrong)

/- THE SECOND FORM. 'bulk': how many values and letters a reading holds, each counted each time it is reached (what is shared counts as often as it is met; a slice's spare places count too). A statement '..UptoSaid' is the law's where the arguments, and the package variables that the reading takes, are together of bulk at most 1048576: NARROWER than '..Said'. Prove '..Said' where nothing that the law and all that it calls make is longer than what came in: it says more and counts as full. Else prove '..UptoSaid'. A law counts once. -/
mutual
def uptoBulk {H : Type} : DataW H → Nat
  | .lit (.string bytes) => bytes.length + 1
  | .lit _ => 1
  | .nil => 1
  | .ptr d => uptoBulk d + 1
  | .slice elems spare => uptoBulkAll elems + uptoBulkAll spare + 1
  | .agg parts => uptoBulkAll parts + 1
  | .iface _ d => uptoBulk d + 1
  | .map entries => uptoBulkEntries entries + 1
  | .held _ => 1
def uptoBulkAll {H : Type} : List (DataW H) → Nat
  | [] => 0
  | d :: r => uptoBulk d + uptoBulkAll r
def uptoBulkEntries {H : Type} : List (Lit × DataW H) → Nat
  | [] => 0
  | x :: r => uptoBulkEntry x + uptoBulkEntries r
def uptoBulkEntry {H : Type} : Lit × DataW H → Nat
  | (.string bytes, d) => bytes.length + uptoBulk d + 1
  | (_, d) => uptoBulk d + 1
 end
def uptoSmall : (H : Type) → List (DataW H) → Bool := fun _ ds => decide (uptoBulkAll ds ≤ 1048576)
def OpenSpec.upto (s : _root_.Go.ChangeSpec) : _root_.Go.OpenSpec := { _root_.Go.OpenSpec.ofChange s with cond := some uptoSmall }

/-- 'laws.FnExactBetweenVectors', WHERE WHAT IT READS IS OF BULK AT MOST 1048576: true; the input reads as it did. -/
def fnExactBetweenVectorsUptoRow : OpenClaim := { program := "ytmbfdpplkbdpiad", sum := "aabcc8343bf77dc969af46e5287bc81395582ab5549e63f2ed744e5943485724", func := "loop.example/g01222/laws.FnExactBetweenVectors", spec := "fnExactBetweenVectors", apart := false, narrowed := true }
def FnExactBetweenVectorsUptoSaid : Prop := fnExactBetweenVectorsUptoRow.holds Try.pinned (OpenSpec.upto fnExactBetweenVectorsSpec)

/-- 'laws.FnExactLongOf', WHERE WHAT IT READS IS OF BULK AT MOST 1048576: true; the input reads as it did. -/
def fnExactLongOfUptoRow : OpenClaim := { program := "ytmbfdpplkbdpiad", sum := "aabcc8343bf77dc969af46e5287bc81395582ab5549e63f2ed744e5943485724", func := "loop.example/g01222/laws.FnExactLongOf", spec := "fnExactLongOf", inPlace := ["math.sqrt"], apart := false, narrowed := true }
def FnExactLongOfUptoSaid : Prop := fnExactLongOfUptoRow.holds Try.pinned (OpenSpec.upto fnExactLongOfSpec)

/-- 'laws.FnExactDotNumbers', WHERE WHAT IT READS IS OF BULK AT MOST 1048576: true; the input reads as it did. -/
def fnExactDotNumbersUptoRow : OpenClaim := { program := "ytmbfdpplkbdpiad", sum := "aabcc8343bf77dc969af46e5287bc81395582ab5549e63f2ed744e5943485724", func := "loop.example/g01222/laws.FnExactDotNumbers", spec := "fnExactDotNumbers", apart := false, narrowed := true }
def FnExactDotNumbersUptoSaid : Prop := fnExactDotNumbersUptoRow.holds Try.pinned (OpenSpec.upto fnExactDotNumbersSpec)

/-- 'laws.FnExactSumNumbers', WHERE WHAT IT READS IS OF BULK AT MOST 1048576: true; the input reads as it did. -/
def fnExactSumNumbersUptoRow : OpenClaim := { program := "ytmbfdpplkbdpiad", sum := "aabcc8343bf77dc969af46e5287bc81395582ab5549e63f2ed744e5943485724", func := "loop.example/g01222/laws.FnExactSumNumbers", spec := "fnExactSumNumbers", apart := false, narrowed := true }
def FnExactSumNumbersUptoSaid : Prop := fnExactSumNumbersUptoRow.holds Try.pinned (OpenSpec.upto fnExactSumNumbersSpec)

/-- 'laws.FnExactSumPairs', WHERE WHAT IT READS IS OF BULK AT MOST 1048576: true; the input reads as it did. -/
def fnExactSumPairsUptoRow : OpenClaim := { program := "ytmbfdpplkbdpiad", sum := "aabcc8343bf77dc969af46e5287bc81395582ab5549e63f2ed744e5943485724", func := "loop.example/g01222/laws.FnExactSumPairs", spec := "fnExactSumPairs", recurses := true, apart := false, narrowed := true }
def FnExactSumPairsUptoSaid : Prop := fnExactSumPairsUptoRow.holds Try.pinned (OpenSpec.upto fnExactSumPairsSpec)

/-- 'laws.FnExactAngleTurns', WHERE WHAT IT READS IS OF BULK AT MOST 1048576: true; the input reads as it did. -/
def fnExactAngleTurnsUptoRow : OpenClaim := { program := "ytmbfdpplkbdpiad", sum := "aabcc8343bf77dc969af46e5287bc81395582ab5549e63f2ed744e5943485724", func := "loop.example/g01222/laws.FnExactAngleTurns", spec := "fnExactAngleTurns", inPlace := ["math.Float64frombits", "math.Float64bits", "math.sqrt"], apart := false, narrowed := true }
def FnExactAngleTurnsUptoSaid : Prop := fnExactAngleTurnsUptoRow.holds Try.pinned (OpenSpec.upto fnExactAngleTurnsSpec)

end Rows
end Go.Proofs.Ytmbfdpplkbdpiad
