/-
  Lists of whole numbers read as the print's words tell; equal ones.
-/
import Derived.Test.YtjfoimbeflobkaaDoorPeqInt64Sx1
namespace Go.Proofs.YtjfoimbeflobkaaDoor
open Go.RowKit Go.Proofs.YtjfoimbeflobkaaDoorW.PrintWords
set_option linter.unusedVariables false

theorem wrap_fit {x : Int} (h0 : -9223372036854775808 ≤ x) (h1 : x ≤ 9223372036854775807) : wrap64 x = x := by unfold wrap64; omega

theorem rd_get (l : List Int) (i : Nat) (h : i < l.length) : rd l (i : Int) = l[i] := by
  unfold rd
  rw [Int.toNat_natCast, List.getD_eq_getElem?_getD, List.getElem?_eq_getElem h]; rfl

theorem eqInt_loop (l : List Int) (hl : l.length ≤ 1048576) (d : Nat) : ∀ (k i : Nat), i ≤ l.length → l.length - i = d → d < k → PeqInt64S.laws_eqInt64S.l0 k l l (i : Int) = some true := by
  induction d with
  | zero =>
    intro k i hi hd hk
    obtain ⟨k, rfl⟩ : ∃ j, k = j + 1 := ⟨k - 1, by omega⟩
    simp only [PeqInt64S.laws_eqInt64S.l0]
    rw [if_neg (by omega)]
  | succ d ih =>
    intro k i hi hd hk
    obtain ⟨k, rfl⟩ : ∃ j, k = j + 1 := ⟨k - 1, by omega⟩
    simp only [PeqInt64S.laws_eqInt64S.l0]
    rw [if_pos (by omega), if_pos (by omega), if_pos (by omega), if_pos trivial, wrap_fit (by omega) (by omega), show (i : Int) + 1 = ((i + 1 : Nat) : Int) by omega]
    exact ih k (i + 1) (by omega) (by omega) (by omega)

theorem eqInt_f (l : List Int) (hl : l.length ≤ 1048576) : PeqInt64S.laws_eqInt64S.f (l.length + 1) l l = some true := by
  unfold PeqInt64S.laws_eqInt64S.f
  rw [if_pos rfl]
  exact eqInt_loop l hl l.length _ 0 (by omega) (by omega) (by omega)

theorem laws_eqInt64S (A B : Option Addr) (cap cap' : Nat) (l : List Int) (hl : l.length ≤ 1048576) (w : World) (hA : (Kd.int .i64).C w A l.length l) (hc : l.length ≤ cap) (hB : (Kd.int .i64).C w B l.length l) (hc' : l.length ≤ cap') :
    Calls Tryd.prog 13 #[.slice A l.length cap, .slice B l.length cap'] w fun e w' => e = .returned (.bool true) ∧ ∃ m, w' = w.drewN m := by
  refine (PeqInt64S.laws_eqInt64S.calls (l.length + 1) A cap l B cap' l true w hA hc hB hc' (eqInt_f l hl)).mono ?_
  rintro e w' ⟨rfl, hd⟩
  obtain ⟨m, rfl⟩ := hd
  exact ⟨rfl, m, rfl⟩
end Go.Proofs.YtjfoimbeflobkaaDoor
