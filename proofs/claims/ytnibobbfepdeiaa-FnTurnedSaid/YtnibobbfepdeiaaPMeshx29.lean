-- written by a program of this session out of the translation (wip/gen/patch_print.py)
import Derived.Test.YtnibobbfepdeiaaPMeshx0
import Derived.Test.YtnibobbfepdeiaaPMeshx24
import Derived.Test.YtnibobbfepdeiaaPMeshx27
import Derived.Test.YtnibobbfepdeiaaPMeshx28
namespace Go.Proofs.Ytnibobbfepdeiaa.PMesh
open Go.RowKit Go.Proofs.YtnibobbfepdeiaaW.PrintWords Go.Proofs.YtnibobbfepdeiaaW.PrintLast Go.Proofs.YtnibobbfepdeiaaW.PrintMore
attribute [local go_sem] max2_int min2_int max_two min_two max_three min_three max_four min_four   -- for this text's walks alone
set_option linter.unusedVariables false
set_option linter.unusedSimpArgs false

/-! ### spec_l02Edges: function 45 -/
mutual
def spec_l02Edges.l0 : Nat → Int → List Bool → Int → List (S59) → List (List Int) → Option ((List (List Int)))
  | 0, _, _, _, _, _ => none
  | k + 1, x3, x4, x5, x1000, x1001 => if x5 < (x1001.length : Int) then (if 0 ≤ x5 then (spec_l02Edges.l1 k x3 x4 x5 (rd_L3 x1001 x5) 0 x1000 x1001) else (none)) else (spec_l02Edges.l2 k x3 x4 (([] : List (List Int))) 0)
def spec_l02Edges.l1 : Nat → Int → List Bool → Int → List Int → Int → List (S59) → List (List Int) → Option ((List (List Int)))
  | 0, _, _, _, _, _, _, _ => none
  | k + 1, x3, x4, x5, x6, x7, x1000, x1001 => if x7 < 3 then (if 0 ≤ x7 then (if x7 < (x6.length : Int) then (if 0 ≤ (Int.tmod (wrap64 (x7 + 1)) 3) then (if (Int.tmod (wrap64 (x7 + 1)) 3) < (x6.length : Int) then ((spec_l00Min.f (rd x6 x7) (rd x6 (Int.tmod (wrap64 (x7 + 1)) 3))).bind fun t197 => ((spec_l00Max.f (rd x6 x7) (rd x6 (Int.tmod (wrap64 (x7 + 1)) 3))).bind fun t198 => (if 0 ≤ (wrap64 ((wrap64 (t197 * x3)) + t198)) then (if (wrap64 ((wrap64 (t197 * x3)) + t198)) < (x4.length : Int) then (spec_l02Edges.l1 k x3 (x4.set ((wrap64 ((wrap64 (t197 * x3)) + t198)) : Int).toNat true) x5 x6 (wrap64 (x7 + 1)) x1000 x1001) else (none)) else (none)))) else (none)) else (none)) else (none)) else (none)) else (spec_l02Edges.l0 k x3 x4 (wrap64 (x5 + 1)) x1000 x1001)
def spec_l02Edges.l2 : Nat → Int → List Bool → List (List Int) → Int → Option ((List (List Int)))
  | 0, _, _, _, _ => none
  | k + 1, x3, x4, x10, x11 => if x11 < x3 then (spec_l02Edges.l3 k x3 x4 x10 x11 (wrap64 (x11 + 1))) else (some x10)
def spec_l02Edges.l3 : Nat → Int → List Bool → List (List Int) → Int → Int → Option ((List (List Int)))
  | 0, _, _, _, _, _ => none
  | k + 1, x3, x4, x10, x11, x12 => if x12 < x3 then (if 0 ≤ (wrap64 ((wrap64 (x11 * x3)) + x12)) then (if (wrap64 ((wrap64 (x11 * x3)) + x12)) < (x4.length : Int) then (if rdOf false x4 (wrap64 ((wrap64 (x11 * x3)) + x12)) = true then (if x10.length < 5864062014805 then (spec_l02Edges.l3 k x3 x4 (x10 ++ [(([x11, x12] : List Int))]) x11 (wrap64 (x12 + 1))) else (none)) else (spec_l02Edges.l3 k x3 x4 x10 x11 (wrap64 (x12 + 1)))) else (none)) else (none)) else (spec_l02Edges.l2 k x3 x4 x10 (wrap64 (x11 + 1)))
end
def spec_l02Edges.f (k : Nat) (s0_0 : List (S59)) (s0_1 : List (List Int)) : Option ((List (List Int))) := if 0 ≤ (wrap64 ((s0_0.length : Int) * (s0_0.length : Int))) then (if (wrap64 ((s0_0.length : Int) * (s0_0.length : Int)) : Int).toNat ≤ 281474976710656 then (spec_l02Edges.l0 k (s0_0.length : Int) (List.replicate (wrap64 ((s0_0.length : Int) * (s0_0.length : Int)) : Int).toNat false) 0 s0_0 s0_1) else (none)) else (none)
end Go.Proofs.Ytnibobbfepdeiaa.PMesh
