/-
  The proof's texts, one behind the other: XM1 XM3 XMmark XMrows XM2 XMlaw XM4 XC5 XM8 XM9 XM10 XOps XB1 XD2 XHalf XM12 XM13 XOpen XMopen.
-/
import Derived.Test.YtlendjpmblapkaaFw
import Derived.Test.YtlendjpmblapkaaPMeshx3
import Derived.Test.YtlendjpmblapkaaPMeshx7
import Derived.Test.YtlendjpmblapkaaPMeshx11
import Derived.Test.YtlendjpmblapkaaPMeshx17
import Derived.Test.YtlendjpmblapkaaPMeshx21
import Derived.Test.YtlendjpmblapkaaPMeshx19
import Derived.Test.YtlendjpmblapkaaPMeshx18
import Derived.Test.YtlendjpmblapkaaPMeshx25
import Derived.Test.YtlendjpmblapkaaPMeshx26
import Derived.Test.YtlendjpmblapkaaPMeshx12
import Derived.Lib.Hide
import Derived.OwnWalk
import Derived.Test.YtlendjpmblapkaaPMeshx14
import Derived.Test.YtlendjpmblapkaaPMeshx27
import Derived.Deep.RegionHeld3
import Derived.Laws.Cover2
import Derived.ProofKit
import Derived.WalkKit
import Derived.OpenShut
import Derived.Lib.SmallJoins
import Derived.Deep.Slices
import Derived.ChangeSame
namespace Go.Proofs.Ytlendjpmblapkaa.Msh
open Fl Go.RowKit Go.Proofs.YtlendjpmblapkaaW.PrintWords Go.Proofs.Ytlendjpmblapkaa.PMesh
set_option linter.unusedVariables false
set_option linter.unusedSimpArgs false

theorem wrap_fit {x : Int} (h0 : -9223372036854775808 ≤ x) (h1 : x ≤ 9223372036854775807) : wrap64 x = x := by unfold wrap64; omega

theorem rdI (l : List Int) (i : Nat) (h : i < l.length) : rd l (i : Int) = l[i] := by
  unfold rd
  rw [Int.toNat_natCast, List.getD_eq_getElem?_getD, List.getElem?_eq_getElem h]; rfl
theorem rdL (l : List (List Int)) (i : Nat) (h : i < l.length) : rd_L3 l (i : Int) = l[i] := by
  unfold rd_L3
  rw [Int.toNat_natCast, List.getD_eq_getElem?_getD, List.getElem?_eq_getElem h]; rfl
theorem rdV (l : List S46) (i : Nat) (h : i < l.length) : rd_T46 l (i : Int) = l[i] := by
  unfold rd_T46
  rw [Int.toNat_natCast, List.getD_eq_getElem?_getD, List.getElem?_eq_getElem h]; rfl
theorem rdW (l : List S75) (i : Nat) (h : i < l.length) : rd_T75 l (i : Int) = l[i] := by
  unfold rd_T75
  rw [Int.toNat_natCast, List.getD_eq_getElem?_getD, List.getElem?_eq_getElem h]; rfl

theorem up (i : Nat) (h : i ≤ 9223372036854775806) : wrap64 ((i : Int) + 1) = ((i + 1 : Nat) : Int) := by rw [wrap_fit (by omega) (by omega)]; omega

/-! sizes -/
theorem sz_loop (T : List (List Int)) (hr : ∀ t ∈ T, t.length ≤ 9223372036854775807) (hT : T.length ≤ 1048576) (d : Nat) : ∀ (k i : Nat) (a : Int), i ≤ T.length → T.length - i = d → d < k → 0 ≤ a → a ≤ 1048576 →
    ∃ r, laws_szInt64SS.l0 k T a (i : Int) = some r ∧ r ≤ 1048576 ∧ (0 ≤ r → ∀ j, i ≤ j → (h : j < T.length) → T[j].length ≤ 1048576) := by
  induction d with
  | zero =>
    intro k i a hi hd hk h0 h1
    obtain ⟨k, rfl⟩ : ∃ j, k = j + 1 := ⟨k - 1, by omega⟩
    simp only [laws_szInt64SS.l0]
    rw [if_neg (by omega)]
    exact ⟨a, rfl, h1, fun _ j hij hj => by omega⟩
  | succ d ih =>
    intro k i a hi hd hk h0 h1
    obtain ⟨k, rfl⟩ : ∃ j, k = j + 1 := ⟨k - 1, by omega⟩
    have hlt : i < T.length := by omega
    have hl := hr T[i] (List.getElem_mem hlt)
    simp only [laws_szInt64SS.l0]
    rw [if_pos (by omega), if_pos (by omega), rdL T i hlt]
    unfold laws_szInt64S.f
    rw [wrap_fit (by omega) (by omega)]
    by_cases hneg : a - (T[i].length : Int) < 0
    · rw [if_pos hneg]
      simp only [Option.bind_some]
      rw [if_pos (by decide)]
      exact ⟨-1, rfl, by decide, fun h => by omega⟩
    · rw [if_neg hneg]
      simp only [Option.bind_some]
      rw [if_neg hneg, up i (by omega)]
      obtain ⟨r, e, hr1, h⟩ := ih k (i + 1) (a - (T[i].length : Int)) (by omega) (by omega) (by omega) (by omega) (by omega)
      refine ⟨r, e, hr1, fun h0 j hij hj => ?_⟩
      rcases Nat.lt_or_ge i j with hlt' | hge
      · exact h h0 j hlt' hj
      · obtain rfl : i = j := by omega
        omega

theorem szMesh_f (Pl : List S75) (T : List (List Int)) (hP : Pl.length ≤ 9223372036854775807) (hT : T.length ≤ 9223372036854775807) (hr : ∀ t ∈ T, t.length ≤ 9223372036854775807) (k : Nat) (hk : 1048577 < k) (a : Int) (ha : 0 ≤ a) (ha1 : a ≤ 1048576) :
    ∃ r, laws_szMesh.f k Pl T a = some r ∧ r ≤ 1048576 ∧ (0 ≤ r → Pl.length ≤ 1048576 ∧ T.length ≤ 1048576 ∧ ∀ t ∈ T, t.length ≤ 1048576) := by
  unfold laws_szMesh.f laws_szVectorS.f
  rw [wrap_fit (by omega) (by omega)]
  by_cases h1 : a - (Pl.length : Int) < 0
  · rw [if_pos h1]
    simp only [Option.bind_some]
    rw [if_pos (by decide)]
    exact ⟨-1, rfl, by decide, fun h => by omega⟩
  · rw [if_neg h1]
    simp only [Option.bind_some]
    rw [if_neg h1]
    unfold laws_szInt64SS.f
    rw [wrap_fit (by omega) (by omega)]
    by_cases h2 : a - (Pl.length : Int) - (T.length : Int) < 0
    · rw [if_pos h2]
      simp only [Option.bind_some]
      rw [if_pos (by decide)]
      exact ⟨-1, rfl, by decide, fun h => by omega⟩
    · rw [if_neg h2]
      obtain ⟨r, e, hr1, h⟩ := sz_loop T hr (by omega) T.length k 0 _ (by omega) (by omega) (by omega) (Int.not_lt.1 h2) (by omega)
      rw [show ((0 : Nat) : Int) = 0 from rfl] at e
      rw [e]
      simp only [Option.bind_some]
      by_cases h3 : r < 0
      · rw [if_pos h3]
        exact ⟨-1, rfl, by decide, fun h => by omega⟩
      · rw [if_neg h3]
        refine ⟨r, rfl, hr1, fun h0 => ⟨by omega, by omega, fun t ht => ?_⟩⟩
        obtain ⟨j, hj, rfl⟩ := List.getElem_of_mem ht
        exact h h0 j (by omega) hj

/-! copies -/
def toV (x : S75) : S46 := ⟨x.f0, x.f1, x.f2⟩

theorem toI_loop (l : List Int) (hl : l.length ≤ 1048576) (d : Nat) : ∀ (k i : Nat) (out : List Int), i ≤ l.length → l.length - i = d → d < k → out.length = l.length → (∀ j, j < i → out[j]? = l[j]?) → laws_toInt64S.l0 k l out (i : Int) = some l := by
  induction d with
  | zero =>
    intro k i out hi hd hk ho hj
    obtain ⟨k, rfl⟩ : ∃ j, k = j + 1 := ⟨k - 1, by omega⟩
    simp only [laws_toInt64S.l0]
    rw [if_neg (by omega)]
    congr 1
    apply List.ext_getElem?
    intro j
    rcases Nat.lt_or_ge j i with h | h
    · exact hj j h
    · rw [List.getElem?_eq_none (by omega), List.getElem?_eq_none (by omega)]
  | succ d ih =>
    intro k i out hi hd hk ho hj
    obtain ⟨k, rfl⟩ : ∃ j, k = j + 1 := ⟨k - 1, by omega⟩
    have hil : i < l.length := by omega
    simp only [laws_toInt64S.l0]
    rw [if_pos (by omega), if_pos (by omega), if_pos (by omega), rdI l i hil, up i (by omega), Int.toNat_natCast]
    refine ih k (i + 1) _ (by omega) (by omega) (by omega) (by rw [List.length_set]; exact ho) (fun j hji => ?_)
    by_cases e : j = i
    · subst e; rw [List.getElem?_set_self (by omega), List.getElem?_eq_getElem hil]
    · rw [List.getElem?_set_ne (by omega)]; exact hj j (by omega)

theorem toI_f (l : List Int) (hl : l.length ≤ 1048576) (k : Nat) (hk : 1048577 < k) : laws_toInt64S.f k l = some l := by
  unfold laws_toInt64S.f
  rw [if_pos (by omega), Int.toNat_natCast, if_pos (by omega)]
  exact toI_loop l hl l.length k 0 _ (by omega) (by omega) (by omega) (by simp) (fun j hj => absurd hj (Nat.not_lt_zero _))

theorem toT_loop (T : List (List Int)) (hl : T.length ≤ 1048576) (hr : ∀ t ∈ T, t.length ≤ 1048576) (d : Nat) : ∀ (k i : Nat) (out : List (List Int)), i ≤ T.length → T.length - i = d → d + 1048578 < k → out.length = T.length → (∀ j, j < i → out[j]? = T[j]?) → laws_toInt64SS.l0 k T out (i : Int) = some T := by
  induction d with
  | zero =>
    intro k i out hi hd hk ho hj
    obtain ⟨k, rfl⟩ : ∃ j, k = j + 1 := ⟨k - 1, by omega⟩
    simp only [laws_toInt64SS.l0]
    rw [if_neg (by omega)]
    congr 1
    apply List.ext_getElem?
    intro j
    rcases Nat.lt_or_ge j i with h | h
    · exact hj j h
    · rw [List.getElem?_eq_none (by omega), List.getElem?_eq_none (by omega)]
  | succ d ih =>
    intro k i out hi hd hk ho hj
    obtain ⟨k, rfl⟩ : ∃ j, k = j + 1 := ⟨k - 1, by omega⟩
    have hil : i < T.length := by omega
    simp only [laws_toInt64SS.l0]
    rw [if_pos (by omega), if_pos (by omega), rdL T i hil, toI_f _ (hr _ (List.getElem_mem hil)) k (by omega)]
    simp only [Option.bind_some]
    rw [if_pos (by omega), up i (by omega), Int.toNat_natCast]
    refine ih k (i + 1) _ (by omega) (by omega) (by omega) (by rw [List.length_set]; exact ho) (fun j hji => ?_)
    by_cases e : j = i
    · subst e; rw [List.getElem?_set_self (by omega), List.getElem?_eq_getElem hil]
    · rw [List.getElem?_set_ne (by omega)]; exact hj j (by omega)

theorem toP_loop (L : List S75) (hl : L.length ≤ 1048576) (d : Nat) : ∀ (k i : Nat) (out : List S46), i ≤ L.length → L.length - i = d → d < k → out.length = L.length → (∀ j, j < i → out[j]? = (L.map toV)[j]?) → laws_toVectorS.l0 k L out (i : Int) = some (L.map toV) := by
  induction d with
  | zero =>
    intro k i out hi hd hk ho hj
    obtain ⟨k, rfl⟩ : ∃ j, k = j + 1 := ⟨k - 1, by omega⟩
    simp only [laws_toVectorS.l0]
    rw [if_neg (by omega)]
    congr 1
    apply List.ext_getElem?
    intro j
    rcases Nat.lt_or_ge j i with h | h
    · exact hj j h
    · rw [List.getElem?_eq_none (by omega), List.getElem?_eq_none (by rw [List.length_map]; omega)]
  | succ d ih =>
    intro k i out hi hd hk ho hj
    obtain ⟨k, rfl⟩ : ∃ j, k = j + 1 := ⟨k - 1, by omega⟩
    have hil : i < L.length := by omega
    simp only [laws_toVectorS.l0]
    rw [if_pos (by omega), if_pos (by omega), rdW L i hil]
    unfold laws_toVector.f
    simp only [Option.bind_some]
    rw [if_pos (by omega), up i (by omega), Int.toNat_natCast]
    refine ih k (i + 1) _ (by omega) (by omega) (by omega) (by rw [List.length_set]; exact ho) (fun j hji => ?_)
    by_cases e : j = i
    · subst e; rw [List.getElem?_set_self (by omega), List.getElem?_map, List.getElem?_eq_getElem hil]; rfl
    · rw [List.getElem?_set_ne (by omega)]; exact hj j (by omega)

theorem toMesh_f (L : List S75) (T : List (List Int)) (hL : L.length ≤ 1048576) (hT : T.length ≤ 1048576) (hr : ∀ t ∈ T, t.length ≤ 1048576) (k : Nat) (hk : 2097155 < k) : laws_toMesh.f k L T = some (L.map toV, T) := by
  unfold laws_toMesh.f laws_toVectorS.f
  rw [if_pos (by omega), Int.toNat_natCast, if_pos (by omega)]
  have h1 := toP_loop L hL L.length k 0 (List.replicate L.length z46) (by omega) (by omega) (by omega) (by simp) (fun j hj => absurd hj (Nat.not_lt_zero _))
  rw [show ((0 : Nat) : Int) = 0 from rfl] at h1
  rw [h1]
  simp only [Option.bind_some]
  unfold laws_toInt64SS.f
  rw [if_pos (by omega), Int.toNat_natCast, if_pos (by omega)]
  have h2 := toT_loop T hT hr T.length k 0 (List.replicate T.length []) (by omega) (by omega) (by omega) (by simp) (fun j hj => absurd hj (Nat.not_lt_zero _))
  rw [show ((0 : Nat) : Int) = 0 from rfl] at h2
  rw [h2]
  rfl

/-! equal meshes -/
/-- A vector of floats below 2^32. -/
def okV (x : S46) : Prop := x.f0 < 4294967296 ∧ x.f1 < 4294967296 ∧ x.f2 < 4294967296
/-- Vectors with the same values. -/
def simV (x y : S46) : Prop := simF x.f0 y.f0 = true ∧ simF x.f1 y.f1 = true ∧ simF x.f2 y.f2 = true
theorem simV_self {x : S46} (h : okV x) : simV x x := ⟨simF_self h.1, simF_self h.2.1, simF_self h.2.2⟩
def simP (a b : List S46) : Prop := a.length = b.length ∧ ∀ (i : Nat) (ha : i < a.length) (hb : i < b.length), simV a[i] b[i]
theorem simP_self {a : List S46} (h : ∀ x ∈ a, okV x) : simP a a := ⟨rfl, fun i ha _ => simV_self (h _ (List.getElem_mem ha))⟩

theorem eqV_loop (a b : List S46) (hl : a.length ≤ 1048576) (h : simP a b) (d : Nat) : ∀ (k i : Nat), i ≤ a.length → a.length - i = d → d < k → laws_eqVectorS.l0 k a b (i : Int) = some true := by
  have hab := h.1
  induction d with
  | zero =>
    intro k i hi hd hk
    obtain ⟨k, rfl⟩ : ∃ j, k = j + 1 := ⟨k - 1, by omega⟩
    simp only [laws_eqVectorS.l0]
    rw [if_neg (by omega)]
  | succ d ih =>
    intro k i hi hd hk
    obtain ⟨k, rfl⟩ : ∃ j, k = j + 1 := ⟨k - 1, by omega⟩
    have hia : i < a.length := by omega
    have hib : i < b.length := by omega
    simp only [laws_eqVectorS.l0]
    rw [if_pos (by omega), if_pos (by omega), if_pos (by omega), rdV a i hia, rdV b i hib]
    unfold laws_eqVector.f
    have hs := h.2 i hia hib
    unfold simV at hs
    rw [if_pos hs]
    simp only [Option.bind_some]
    rw [if_pos trivial, up i (by omega)]
    exact ih k (i + 1) (by omega) (by omega) (by omega)

theorem eqI_loop (l : List Int) (hl : l.length ≤ 1048576) (d : Nat) : ∀ (k i : Nat), i ≤ l.length → l.length - i = d → d < k → laws_eqInt64S.l0 k l l (i : Int) = some true := by
  induction d with
  | zero =>
    intro k i hi hd hk
    obtain ⟨k, rfl⟩ : ∃ j, k = j + 1 := ⟨k - 1, by omega⟩
    simp only [laws_eqInt64S.l0]
    rw [if_neg (by omega)]
  | succ d ih =>
    intro k i hi hd hk
    obtain ⟨k, rfl⟩ : ∃ j, k = j + 1 := ⟨k - 1, by omega⟩
    simp only [laws_eqInt64S.l0]
    rw [if_pos (by omega), if_pos (by omega), if_pos (by omega), if_pos trivial, up i (by omega)]
    exact ih k (i + 1) (by omega) (by omega) (by omega)

theorem eqI_f (l : List Int) (hl : l.length ≤ 1048576) (k : Nat) (hk : 1048577 < k) : laws_eqInt64S.f k l l = some true := by
  unfold laws_eqInt64S.f
  rw [if_pos rfl]
  exact eqI_loop l hl l.length k 0 (by omega) (by omega) (by omega)

theorem eqT_loop (T : List (List Int)) (hl : T.length ≤ 1048576) (hr : ∀ t ∈ T, t.length ≤ 1048576) (d : Nat) : ∀ (k i : Nat), i ≤ T.length → T.length - i = d → d + 1048578 < k → laws_eqInt64SS.l0 k T T (i : Int) = some true := by
  induction d with
  | zero =>
    intro k i hi hd hk
    obtain ⟨k, rfl⟩ : ∃ j, k = j + 1 := ⟨k - 1, by omega⟩
    simp only [laws_eqInt64SS.l0]
    rw [if_neg (by omega)]
  | succ d ih =>
    intro k i hi hd hk
    obtain ⟨k, rfl⟩ : ∃ j, k = j + 1 := ⟨k - 1, by omega⟩
    have hil : i < T.length := by omega
    simp only [laws_eqInt64SS.l0]
    rw [if_pos (by omega), if_pos (by omega), if_pos (by omega), rdL T i hil, eqI_f _ (hr _ (List.getElem_mem hil)) k (by omega)]
    simp only [Option.bind_some]
    rw [if_pos trivial, up i (by omega)]
    exact ih k (i + 1) (by omega) (by omega) (by omega)

theorem eqMesh_f (a b : List S46) (T : List (List Int)) (h : simP a b) (hL : a.length ≤ 1048576) (hT : T.length ≤ 1048576) (hr : ∀ t ∈ T, t.length ≤ 1048576) (k : Nat) (hk : 2097155 < k) : laws_eqMesh.f k a T b T = some true := by
  unfold laws_eqMesh.f laws_eqVectorS.f
  have hab := h.1
  have h1 := eqV_loop a b hL h a.length k 0 (by omega) (by omega) (by omega)
  have h2 := eqT_loop T hT hr T.length k 0 (by omega) (by omega) (by omega)
  rw [show ((0 : Nat) : Int) = 0 from rfl] at h1 h2
  rw [if_pos (by omega), h1]
  simp only [Option.bind_some]
  rw [if_pos trivial]
  unfold laws_eqInt64SS.f
  rw [if_pos rfl, h2]
  rfl

/-! valid meshes -/
def inB (n : Nat) (p : Int) : Bool := decide (0 ≤ p ∧ p < (n : Int))
/-- A triangle of n places. -/
def triB (n : Nat) (t : List Int) : Bool := match t with
  | [a, b, c] => decide (a ≠ b) && decide (b ≠ c) && decide (a ≠ c) && inB n a && inB n b && inB n c
  | _ => false
def validB (n : Nat) (T : List (List Int)) : Bool := decide (n ≤ 64) && decide (T.length ≤ 128) && T.all (triB n)

theorem in_f (n : Nat) (hn : n ≤ 64) (p : Int) : spec_l00In.f p 0 (wrap64 ((n : Int) - 1)) = some (inB n p) := by
  unfold spec_l00In.f inB
  rw [wrap_fit (by omega) (by omega)]
  by_cases h : p ≥ 0
  · rw [if_pos h]; congr 1; rw [decide_eq_decide]; omega
  · rw [if_neg h]; congr 1; symm; rw [decide_eq_false_iff_not]; omega
theorem within_f (n : Nat) (hn : n ≤ 64) (p : Int) : impl_within.f p 0 (wrap64 ((n : Int) - 1)) = some (inB n p) := in_f n hn p

theorem tri3 {t : List Int} (h : t.length = 3) : ∃ a b c, t = [a, b, c] := by
  match t, h with
  | [a, b, c], _ => exact ⟨a, b, c, rfl⟩
theorem triB_len {n : Nat} {t : List Int} (h : triB n t = true) : t.length = 3 := by
  unfold triB at h
  split at h
  · rfl
  · cases h
theorem triB_not {n : Nat} {t : List Int} (h : ¬ t.length = 3) : triB n t = false := by
  cases e : triB n t
  · rfl
  · exact absurd (triB_len e) h

theorem rd3_0 (a b c : Int) : rd [a, b, c] 0 = a := rfl
theorem rd3_1 (a b c : Int) : rd [a, b, c] 1 = b := rfl
theorem rd3_2 (a b c : Int) : rd [a, b, c] 2 = c := rfl

theorem triB_rd (n : Nat) (t : List Int) (h : t.length = 3) : triB n t = (decide (rd t 0 ≠ rd t 1) && decide (rd t 1 ≠ rd t 2) && decide (rd t 0 ≠ rd t 2) && t.all (inB n)) := by
  obtain ⟨a, b, c, rfl⟩ := tri3 h
  rw [rd3_0, rd3_1, rd3_2]
  simp only [triB, List.all_cons, List.all_nil, Bool.and_true, Bool.and_assoc]

theorem triangle_f (n : Nat) (hn : n ≤ 64) (t : List Int) (k : Nat) (hk : 1 < k) : spec_l02Triangle.f k t (n : Int) = some (triB n t) := by
  obtain ⟨k, rfl⟩ : ∃ j, k = j + 1 := ⟨k - 1, by omega⟩
  unfold spec_l02Triangle.f
  by_cases h3 : t.length = 3
  · obtain ⟨a, b, c, rfl⟩ := tri3 h3
    simp only [spec_l02Triangle.j0, rd3_0, rd3_1, rd3_2, in_f n hn, Option.bind_some]
    simp only [triB, List.length_cons, List.length_nil]
    by_cases e1 : a = b <;> by_cases e2 : b = c <;> by_cases e3 : a = c <;> by_cases i1 : inB n a = true <;> by_cases i2 : inB n b = true <;> simp_all
  · rw [if_neg (by omega)]
    simp only [spec_l02Triangle.j0]
    rw [if_pos trivial, triB_not h3]

theorem is_loop (Q : List S46) (T : List (List Int)) (hn : Q.length ≤ 64) (hT : T.length ≤ 128) (d : Nat) : ∀ (k i : Nat), i ≤ T.length → T.length - i = d → d + 2 < k → spec_l02Is.l0 k (i : Int) Q T = some ((T.drop i).all (triB Q.length)) := by
  induction d with
  | zero =>
    intro k i hi hd hk
    obtain ⟨k, rfl⟩ : ∃ j, k = j + 1 := ⟨k - 1, by omega⟩
    simp only [spec_l02Is.l0]
    rw [if_neg (by omega), List.drop_of_length_le (by omega)]
    rfl
  | succ d ih =>
    intro k i hi hd hk
    obtain ⟨k, rfl⟩ : ∃ j, k = j + 1 := ⟨k - 1, by omega⟩
    have hil : i < T.length := by omega
    have e : T.drop i = T[i] :: T.drop (i + 1) := List.drop_eq_getElem_cons hil
    simp only [spec_l02Is.l0]
    rw [if_pos (by omega), if_pos (by omega), rdL T i hil, triangle_f _ hn _ k (by omega), e, List.all_cons]
    simp only [Option.bind_some]
    by_cases h : triB Q.length T[i] = true
    · rw [if_pos h, up i (by omega), ih k (i + 1) (by omega) (by omega) (by omega), h]; rfl
    · rw [if_neg h, Bool.eq_false_iff.2 h]; rfl

theorem is_f (Q : List S46) (T : List (List Int)) (k : Nat) (hk : 200 < k) : spec_l02Is.f k Q T = some (validB Q.length T) := by
  obtain ⟨k, rfl⟩ : ∃ j, k = j + 1 := ⟨k - 1, by omega⟩
  unfold spec_l02Is.f validB
  by_cases h1 : Q.length ≤ 64
  · rw [if_neg (by omega)]
    simp only [spec_l02Is.j0]
    by_cases h2 : T.length ≤ 128
    · rw [if_neg (by simp; omega)]
      have := is_loop Q T h1 h2 T.length k 0 (by omega) (by omega) (by omega)
      rw [show ((0 : Nat) : Int) = 0 from rfl] at this
      rw [this]
      simp [h1, h2]
    · rw [if_pos (by simp; omega)]
      simp [h2]
  · rw [if_pos (by omega)]
    simp only [spec_l02Is.j0]
    rw [if_pos trivial]
    simp [h1]

theorem vm_inner (T : List (List Int)) (n : Nat) (hn : n ≤ 64) (i : Nat) (t : List Int) (ht : t.length = 3) (d : Nat) : ∀ (k j : Nat), j ≤ 3 → 3 - j = d → d < k →
    ∃ k', k' + d + 1 = k ∧ impl_ValidMesh.l1 k (n : Int) T (T.length : Int) (i : Int) t (t.length : Int) (j : Int) = if (t.drop j).all (inB n) = true then impl_ValidMesh.l0 k' (n : Int) T (T.length : Int) (wrap64 ((i : Int) + 1)) else some false := by
  induction d with
  | zero =>
    intro k j hj hd hk
    obtain ⟨k, rfl⟩ : ∃ j, k = j + 1 := ⟨k - 1, by omega⟩
    refine ⟨k, by omega, ?_⟩
    simp only [impl_ValidMesh.l1]
    rw [if_neg (by omega), List.drop_of_length_le (by omega)]
    rfl
  | succ d ih =>
    intro k j hj hd hk
    obtain ⟨k, rfl⟩ : ∃ j, k = j + 1 := ⟨k - 1, by omega⟩
    have hjl : j < t.length := by omega
    obtain ⟨k', hk', h⟩ := ih k (j + 1) (by omega) (by omega) (by omega)
    refine ⟨k', by omega, ?_⟩
    have e : t.drop j = t[j] :: t.drop (j + 1) := List.drop_eq_getElem_cons hjl
    simp only [impl_ValidMesh.l1]
    rw [if_pos (by omega), if_pos (by omega), if_pos (by omega), rdI t j hjl, within_f n hn, e, List.all_cons]
    simp only [Option.bind_some]
    by_cases hb : inB n t[j] = true
    · rw [if_pos hb, up j (by omega), h, hb, Bool.true_and]
    · rw [if_neg hb, if_neg (by simp [hb])]

theorem vm_loop (n : Nat) (hn : n ≤ 64) (T : List (List Int)) (hT : T.length ≤ 128) (d : Nat) : ∀ (k i : Nat), i ≤ T.length → T.length - i = d → 10 * d + 5 < k → impl_ValidMesh.l0 k (n : Int) T (T.length : Int) (i : Int) = some ((T.drop i).all (triB n)) := by
  induction d with
  | zero =>
    intro k i hi hd hk
    obtain ⟨k, rfl⟩ : ∃ j, k = j + 1 := ⟨k - 1, by omega⟩
    simp only [impl_ValidMesh.l0]
    rw [if_neg (by omega), List.drop_of_length_le (by omega)]
    rfl
  | succ d ih =>
    intro k i hi hd hk
    obtain ⟨k, rfl⟩ : ∃ j, k = j + 2 := ⟨k - 2, by omega⟩
    have hil : i < T.length := by omega
    have e : T.drop i = T[i] :: T.drop (i + 1) := List.drop_eq_getElem_cons hil
    simp only [impl_ValidMesh.l0]
    rw [if_pos (by omega), if_pos (by omega), if_pos (by omega), rdL T i hil, e, List.all_cons]
    by_cases h3 : T[i].length = 3
    · rw [if_pos (by omega), if_pos (by omega), if_pos (by omega)]
      obtain ⟨k', hk', h1⟩ := vm_inner T n hn i T[i] h3 3 k 0 (by omega) (by omega) (by omega)
      have h0 := ih k' (i + 1) (by omega) (by omega) (by omega)
      rw [up i (by omega), h0, List.drop_zero] at h1
      rw [triB_rd n _ h3]
      generalize T[i] = t at *
      have h1' : impl_ValidMesh.l1 k (n : Int) T (T.length : Int) (i : Int) t (t.length : Int) 0 = if t.all (inB n) = true then some ((T.drop (i + 1)).all (triB n)) else some false := h1
      by_cases e1 : rd t 0 = rd t 1
      · rw [if_pos e1]
        simp [impl_ValidMesh.j2, e1]
      · rw [if_neg e1, if_pos (by omega)]
        by_cases e2 : rd t 1 = rd t 2
        · rw [if_pos e2]
          simp [impl_ValidMesh.j2, e2]
        · rw [if_neg e2]
          simp only [impl_ValidMesh.j2]
          by_cases e3 : rd t 0 = rd t 2
          · rw [if_pos (by simp [e3])]
            simp [e3]
          · rw [if_neg (by simp [e3]), h1']
            cases t.all (inB n) <;> simp [e1, e2, e3]
    · rw [if_neg (by omega)]
      simp only [impl_ValidMesh.j2]
      rw [if_pos trivial, triB_not h3]; rfl

theorem valid_f (Q : List S46) (T : List (List Int)) (k : Nat) (hk : 2000 < k) : impl_ValidMesh.f k Q T = some (validB Q.length T) := by
  obtain ⟨k, rfl⟩ : ∃ j, k = j + 1 := ⟨k - 1, by omega⟩
  unfold impl_ValidMesh.f validB
  by_cases h1 : Q.length ≤ 64
  · rw [if_neg (by omega)]
    simp only [impl_ValidMesh.j0]
    by_cases h2 : T.length ≤ 128
    · rw [if_neg (by simp; omega)]
      have := vm_loop Q.length h1 T h2 T.length k 0 (by omega) (by omega) (by omega)
      rw [show ((0 : Nat) : Int) = 0 from rfl] at this
      rw [this]
      simp [h1, h2]
    · rw [if_pos (by simp; omega)]
      simp [h2]
  · rw [if_pos (by omega)]
    simp only [impl_ValidMesh.j0]
    rw [if_pos trivial]
    simp [h1]
end Go.Proofs.Ytlendjpmblapkaa.Msh
namespace Go.Proofs.Ytlendjpmblapkaa.Msh
open Fl Go.RowKit Go.Proofs.YtlendjpmblapkaaW.PrintWords Go.Proofs.Ytlendjpmblapkaa.PMesh
set_option linter.unusedVariables false

def hasAll (ps : List Int) (t : List Int) : Bool := ps.all fun p => t.contains p
/-- The numbers, from i on, of those triangles that have all of some places. -/
def withL (ps : List Int) : Nat → List (List Int) → List Int
  | _, [] => []
  | i, t :: r => if hasAll ps t = true then (i : Int) :: withL ps (i + 1) r else withL ps (i + 1) r

theorem withL_len (ps : List Int) (T : List (List Int)) : ∀ i, (withL ps i T).length ≤ T.length := by
  induction T with
  | nil => intro i; simp [withL]
  | cons t r ih => intro i; have := ih (i + 1); unfold withL; split <;> simp <;> omega

theorem hasAll_two (a b : Int) (t : List Int) : hasAll [a, b] t = (t.contains a && t.contains b) := by simp [hasAll]

theorem all3 {n : Nat} {T : List (List Int)} (h : T.all (triB n) = true) : ∀ t ∈ T, t.length = 3 := fun t ht => triB_len (List.all_eq_true.1 h t ht)
theorem validB_iff {n : Nat} {T : List (List Int)} : validB n T = true ↔ n ≤ 64 ∧ T.length ≤ 128 ∧ T.all (triB n) = true := by simp [validB, and_assoc]

theorem has_f (t : List Int) (h : t.length = 3) (p : Int) : spec_l02Has.f t p = some (t.contains p) := by
  obtain ⟨a, b, c, rfl⟩ := tri3 h
  unfold spec_l02Has.f
  simp only [rd3_0, rd3_1, rd3_2, List.length_cons, List.length_nil]
  by_cases e0 : a = p
  · simp [e0]
  · by_cases e1 : b = p
    · simp [e0, e1]
    · by_cases e2 : c = p
      · simp [e0, e1, e2]
      · have e0' : ¬ p = a := fun h => e0 h.symm
        have e1' : ¬ p = b := fun h => e1 h.symm
        have e2' : ¬ p = c := fun h => e2 h.symm
        simp [e0, e1, e2, e0', e1', e2']

theorem at_loop (Q : List S46) (T : List (List Int)) (hT : T.length ≤ 128) (h3 : ∀ t ∈ T, t.length = 3) (a b : Int) (d : Nat) : ∀ (k i : Nat) (out : List Int), i ≤ T.length → T.length - i = d → out.length ≤ i → d < k → spec_l02At.l0 k a b out (i : Int) Q T = some (out ++ withL [a, b] i (T.drop i)) := by
  induction d with
  | zero =>
    intro k i out hi hd ho hk
    obtain ⟨k, rfl⟩ : ∃ j, k = j + 1 := ⟨k - 1, by omega⟩
    simp only [spec_l02At.l0]
    rw [if_neg (by omega), List.drop_of_length_le (by omega)]
    simp [withL]
  | succ d ih =>
    intro k i out hi hd ho hk
    obtain ⟨k, rfl⟩ : ∃ j, k = j + 1 := ⟨k - 1, by omega⟩
    have hil : i < T.length := by omega
    have e : T.drop i = T[i] :: T.drop (i + 1) := List.drop_eq_getElem_cons hil
    have hl3 := h3 _ (List.getElem_mem hil)
    simp only [spec_l02At.l0]
    rw [if_pos (by omega), if_pos (by omega), rdL T i hil, has_f _ hl3, e]
    simp only [Option.bind_some, withL]
    rw [hasAll_two, has_f _ hl3]
    simp only [Option.bind_some]
    by_cases ha : T[i].contains a = true
    · rw [if_pos ha]
      by_cases hb : T[i].contains b = true
      · rw [if_pos hb, if_pos (by omega), if_pos (by rw [ha, hb]; rfl), up i (by omega), ih k (i + 1) _ (by omega) (by omega) (by simp; omega) (by omega), List.append_assoc]
        rfl
      · rw [if_neg hb, if_neg (by simp only [ha, Bool.true_and]; exact hb), up i (by omega), ih k (i + 1) _ (by omega) (by omega) (by omega) (by omega)]
    · rw [if_neg ha, if_neg (by rw [Bool.eq_false_iff.2 ha]; simp), up i (by omega), ih k (i + 1) _ (by omega) (by omega) (by omega) (by omega)]

theorem at_f (Q : List S46) (T : List (List Int)) (hv : validB Q.length T = true) (a b : Int) : spec_l02At.f 200 Q T a b = some (withL [a, b] 0 T) := by
  obtain ⟨_, h2, h3⟩ := validB_iff.1 hv
  unfold spec_l02At.f
  have := at_loop Q T h2 (all3 h3) a b T.length 200 0 [] (by omega) (by omega) (by simp) (by omega)
  rw [show ((0 : Nat) : Int) = 0 from rfl] at this
  rw [this]
  simp

theorem index_loop (l : List Int) (hl : l.length ≤ 1048576) (p : Int) (d : Nat) : ∀ (k i : Nat), i ≤ l.length → l.length - i = d → d < k → ∃ r, slices_Index_int64_int64.l0 k l p (l.length : Int) (i : Int) = some r ∧ decide (r ≥ 0) = (l.drop i).contains p := by
  induction d with
  | zero =>
    intro k i hi hd hk
    obtain ⟨k, rfl⟩ : ∃ j, k = j + 1 := ⟨k - 1, by omega⟩
    simp only [slices_Index_int64_int64.l0]
    rw [if_neg (by omega), List.drop_of_length_le (by omega)]
    exact ⟨-1, rfl, rfl⟩
  | succ d ih =>
    intro k i hi hd hk
    obtain ⟨k, rfl⟩ : ∃ j, k = j + 1 := ⟨k - 1, by omega⟩
    have hil : i < l.length := by omega
    have e : l.drop i = l[i] :: l.drop (i + 1) := List.drop_eq_getElem_cons hil
    simp only [slices_Index_int64_int64.l0]
    rw [if_pos (by omega), if_pos (by omega), if_pos (by omega), rdI l i hil, e]
    by_cases hp : p = l[i]
    · rw [if_pos hp]
      exact ⟨(i : Int), rfl, by rw [List.contains_cons, hp]; simp⟩
    · rw [if_neg hp, up i (by omega)]
      obtain ⟨r, hr, hc⟩ := ih k (i + 1) (by omega) (by omega) (by omega)
      exact ⟨r, hr, by rw [hc, List.contains_cons, beq_eq_false_iff_ne.2 hp, Bool.false_or]⟩

theorem contains_f (l : List Int) (hl : l.length ≤ 1048576) (p : Int) (k : Nat) (hk : l.length < k) : slices_Contains_int64_int64.f k l p = some (l.contains p) := by
  unfold slices_Contains_int64_int64.f slices_Index_int64_int64.f
  obtain ⟨r, hr, hc⟩ := index_loop l hl p l.length k 0 (by omega) (by omega) hk
  rw [show ((0 : Nat) : Int) = 0 from rfl] at hr
  rw [hr]
  simp only [Option.bind_some]
  rw [hc]
  rfl

theorem with_inner (ps : List Int) (hps : ps.length ≤ 4) (out : List Int) (T : List (List Int)) (n : Int) (i : Int) (x6 : Int) (t : List Int) (ht : t.length = 3) (d : Nat) : ∀ (k j : Nat) (has : Bool), j ≤ ps.length → ps.length - j = d → d + 5 < k →
    ∃ k', k' + d + 1 = k ∧ impl_trianglesWith.l1 k ps out x6 t has T n i ps (ps.length : Int) (j : Int) = if (has && hasAll (ps.drop j) t) = true then (if out.length < 17592186044416 then impl_trianglesWith.l0 k' ps (out ++ [x6]) T n (wrap64 (i + 1)) else none) else impl_trianglesWith.l0 k' ps out T n (wrap64 (i + 1)) := by
  induction d with
  | zero =>
    intro k j has hj hd hk
    obtain ⟨k, rfl⟩ : ∃ m, k = m + 1 := ⟨k - 1, by omega⟩
    refine ⟨k, by omega, ?_⟩
    simp only [impl_trianglesWith.l1]
    rw [if_neg (by omega), List.drop_of_length_le (by omega)]
    simp [hasAll]
  | succ d ih =>
    intro k j has hj hd hk
    obtain ⟨k, rfl⟩ : ∃ m, k = m + 1 := ⟨k - 1, by omega⟩
    have hjl : j < ps.length := by omega
    have e : ps.drop j = ps[j] :: ps.drop (j + 1) := List.drop_eq_getElem_cons hjl
    simp only [impl_trianglesWith.l1]
    rw [if_pos (by omega), if_pos (by omega), if_pos (by omega), rdI ps j hjl, e, up j (by omega)]
    cases has with
    | true =>
      rw [if_pos rfl, contains_f t (by omega) _ k (by omega)]
      simp only [Option.bind_some]
      obtain ⟨k', hk', h⟩ := ih k (j + 1) (t.contains ps[j]) (by omega) (by omega) (by omega)
      refine ⟨k', by omega, ?_⟩
      rw [h]
      simp only [hasAll, List.all_cons, Bool.true_and]
      rfl
    | false =>
      rw [if_neg (by decide)]
      obtain ⟨k', hk', h⟩ := ih k (j + 1) false (by omega) (by omega) (by omega)
      refine ⟨k', by omega, ?_⟩
      rw [h]
      simp

theorem with_loop (ps : List Int) (hps : ps.length ≤ 4) (T : List (List Int)) (hT : T.length ≤ 128) (h3 : ∀ t ∈ T, t.length = 3) (d : Nat) : ∀ (k i : Nat) (out : List Int), i ≤ T.length → T.length - i = d → out.length ≤ i → 10 * d + 12 < k → impl_trianglesWith.l0 k ps out T (T.length : Int) (i : Int) = some (out ++ withL ps i (T.drop i)) := by
  induction d with
  | zero =>
    intro k i out hi hd ho hk
    obtain ⟨k, rfl⟩ : ∃ j, k = j + 1 := ⟨k - 1, by omega⟩
    simp only [impl_trianglesWith.l0]
    rw [if_neg (by omega), List.drop_of_length_le (by omega)]
    simp [withL]
  | succ d ih =>
    intro k i out hi hd ho hk
    obtain ⟨k, rfl⟩ : ∃ j, k = j + 1 := ⟨k - 1, by omega⟩
    have hil : i < T.length := by omega
    have e : T.drop i = T[i] :: T.drop (i + 1) := List.drop_eq_getElem_cons hil
    have hl3 := h3 _ (List.getElem_mem hil)
    simp only [impl_trianglesWith.l0]
    rw [if_pos (by omega), if_pos (by omega), if_pos (by omega), rdL T i hil, e]
    obtain ⟨k', hk', h⟩ := with_inner ps hps out T (T.length : Int) (i : Int) (i : Int) T[i] hl3 ps.length k 0 true (by omega) (by omega) (by omega)
    rw [show ((0 : Nat) : Int) = 0 from rfl, List.drop_zero, Bool.true_and, up i (by omega)] at h
    rw [h]
    simp only [withL]
    by_cases hh : hasAll ps T[i] = true
    · rw [if_pos hh, if_pos hh, if_pos (by omega), ih k' (i + 1) _ (by omega) (by omega) (by simp; omega) (by omega), List.append_assoc]
      rfl
    · rw [if_neg hh, if_neg hh, ih k' (i + 1) _ (by omega) (by omega) (by omega) (by omega)]

theorem with_f (Q : List S46) (T : List (List Int)) (hv : validB Q.length T = true) (ps : List Int) (hps : ps.length ≤ 4) (k : Nat) (hk : 1500 < k) : impl_trianglesWith.f k Q T ps = some (withL ps 0 T) := by
  obtain ⟨_, h2, h3⟩ := validB_iff.1 hv
  unfold impl_trianglesWith.f
  have := with_loop ps hps T h2 (all3 h3) T.length k 0 [] (by omega) (by omega) (by simp) (by omega)
  rw [show ((0 : Nat) : Int) = 0 from rfl] at this
  rw [this]
  simp

theorem isPlace_f (Q : List S46) (T : List (List Int)) (a : Int) (k : Nat) (hk : 2000 < k) : impl_isPlaceOf.f k Q T a = some (validB Q.length T && inB Q.length a) := by
  unfold impl_isPlaceOf.f
  rw [valid_f Q T k hk]
  simp only [Option.bind_some]
  cases h : validB Q.length T
  · rfl
  · have := (validB_iff.1 h).1
    rw [if_pos rfl, within_f _ this]
    rfl

/-- What TrianglesAt answers. -/
def triAt (n : Nat) (T : List (List Int)) (a b : Int) : List Int × Bool := if (validB n T && inB n a && inB n b && decide (a ≠ b)) = true then (withL [a, b] 0 T, true) else ([], false)
def triOf (n : Nat) (T : List (List Int)) (a : Int) : List Int × Bool := if (validB n T && inB n a) = true then (withL [a] 0 T, true) else ([], false)

theorem triAt_f (Q : List S46) (T : List (List Int)) (a b : Int) : impl_TrianglesAt.f 2001 Q T a b = some (triAt Q.length T a b) := by
  unfold impl_TrianglesAt.f triAt
  rw [isPlace_f Q T a _ (by omega), isPlace_f Q T b _ (by omega)]
  simp only [Option.bind_some]
  cases h : validB Q.length T
  · rfl
  · cases ha : inB Q.length a
    · rfl
    · cases hb : inB Q.length b
      · rfl
      · simp only [Bool.true_and, if_pos]
        by_cases e : a = b
        · simp [e]
        · rw [if_neg e, if_pos (by simp [e]), with_f Q T h [a, b] (by simp) _ (by omega)]
          rfl

theorem triOf_f (Q : List S46) (T : List (List Int)) (a : Int) : impl_TrianglesOf.f 2001 Q T a = some (triOf Q.length T a) := by
  unfold impl_TrianglesOf.f triOf
  rw [isPlace_f Q T a _ (by omega)]
  simp only [Option.bind_some]
  cases h : validB Q.length T
  · rfl
  · cases ha : inB Q.length a
    · rfl
    · simp only [Bool.true_and, if_pos]
      rw [with_f Q T h [a] (by simp) _ (by omega)]
      rfl

theorem withL_same (a : Int) (T : List (List Int)) : ∀ i, withL [a, a] i T = withL [a] i T := by
  induction T with
  | nil => intro i; rfl
  | cons t r ih => intro i; unfold withL; rw [ih]; simp [hasAll]

theorem triAt_small (n : Nat) (T : List (List Int)) (a b : Int) : (triAt n T a b).1.length ≤ 1048576 := by
  unfold triAt
  split
  · rename_i h
    have hv : validB n T = true := by simp at h; exact h.1.1.1
    have := withL_len [a, b] T 0
    have := (validB_iff.1 hv).2.1
    simp only; omega
  · simp
theorem triOf_small (n : Nat) (T : List (List Int)) (a : Int) : (triOf n T a).1.length ≤ 1048576 := by
  unfold triOf
  split
  · rename_i h
    have hv : validB n T = true := by simp at h; exact h.1
    have := withL_len [a] T 0
    have := (validB_iff.1 hv).2.1
    simp only; omega
  · simp
end Go.Proofs.Ytlendjpmblapkaa.Msh
namespace Go.Proofs.Ytlendjpmblapkaa
open Go.RowKit Go.Proofs.YtlendjpmblapkaaW.PrintWords Go.Proofs.Ytlendjpmblapkaa.PMesh Msh
set_option linter.unusedVariables false

/-- a, a + 1, .. -/
def marksA (a : Int) (n : Nat) : List Int := (List.range n).map fun t : Nat => a + (t : Int)
theorem marksA_len (a : Int) (n : Nat) : (marksA a n).length = n := by simp [marksA]
theorem marksA_get (a : Int) (n i : Nat) (h : i < (marksA a n).length) : (marksA a n)[i] = a + (i : Int) := by simp [marksA]

/-- The first i marked. -/
def partA (a : Int) (l : List Int) (i : Nat) : List Int := marksA a i ++ l.drop i
theorem partA_len (a : Int) (l : List Int) (i : Nat) (h : i ≤ l.length) : (partA a l i).length = l.length := by simp [partA, marksA]; omega
theorem partA_all (a : Int) (l : List Int) : partA a l l.length = marksA a l.length := by simp [partA]
theorem partA_set (a : Int) (l : List Int) (i : Nat) (h : i < l.length) : (partA a l i).set i (a + (i : Int)) = partA a l (i + 1) := by
  have e1 : marksA a (i + 1) = marksA a i ++ [a + (i : Int)] := by simp [marksA, List.range_succ]
  have e2 : l.drop i = l[i] :: l.drop (i + 1) := List.drop_eq_getElem_cons h
  have hm : (marksA a i).length = i := marksA_len a i
  unfold partA
  rw [e1, e2, List.set_append, if_neg (by omega), hm, Nat.sub_self, List.set_cons_zero, List.append_assoc]
  rfl

theorem mark_ints (v : Value) (l : List Int) (hl : l.length ≤ 1048576) (a : Int) (ha : 0 ≤ a) (ha1 : a ≤ 1152921504606846976) (w : World) (base : Nat) (h : w.ownsRow base 2 1 v l.length (encs (Value.int .i64) l)) :
    Calls Try.prog 20 #[v, .int .i64 a] w fun e w' => e = .returned (.int .i64 (a + (l.length : Int))) ∧ w'.ownsRow base 2 1 v l.length (encs (Value.int .i64) (marksA a l.length)) ∧ w.grownBy w' v.ownBlock := by
  by_cases h0 : l.length = 0
  · obtain rfl : l = [] := List.length_eq_zero_iff.1 h0
    obtain ⟨A, c, rfl⟩ := own_slice h
    have HO := Lib.hid h
    clear h h0 hl
    show Calls Try.prog 20 #[.slice A 0 c, .int .i64 a] w _
    go_enter Try.func20, Try.ntmps20
    go_wp2_with fail
    go_loopw [1, 5] (fun k i wr => wr = w ∧ k = .int .i64 a ∧ i = .int .i64 0) (fun _ _ _ => 0)
    case atStart => exact ⟨rfl, rfl, rfl⟩
    case round =>
      obtain ⟨rfl, rfl, rfl⟩ := hrel
      go_wp2_with fail
      go_ret
      exact ⟨by simp, HO.out, World.grownBy.refl _ _⟩
  · obtain ⟨g, c, rfl, hgb, hgl⟩ := h.form (by omega)
    have HO := Lib.hid h
    clear h
    go_enter Try.func20, Try.ntmps20
    go_wp2_with fail
    go_loopw [1, 5] (fun k i wr => ∃ j : Nat, j ≤ l.length ∧ k = .int .i64 (a + (j : Int)) ∧ i = .int .i64 (j : Int) ∧ Hid (wr.ownsRow base 2 1 (.slice (some ⟨g, 0, none⟩) l.length c) l.length (encs (Value.int .i64) (partA a l j))) ∧ w.grownBy wr (some g)) (fun _ i _ => l.length - (intOf i).toNat)
    case atStart => exact ⟨0, Nat.zero_le _, by simp, rfl, by exact HO.out, World.grownBy.refl _ _⟩
    case round =>
      obtain ⟨j, hj, rfl, rfl, hO, hg⟩ := hrel
      by_cases hlt : j < l.length
      · have b1 : (j : Int) < (l.length : Int) := by omega
        have b2 : (0 : Int) ≤ (j : Int) := by omega
        have b3 : (j : Int) < 1048576 := by omega
        obtain ⟨hcell, hfr⟩ := own_at_of (d := (0 : Int)) hO.out (j : Int) b2 b1
        obtain ⟨hst, hgs⟩ := own_store_of (enc := Value.int .i64) hO.out (j : Int) (a + (j : Int))
        rw [Int.toNat_natCast] at hcell hfr hst hgs
        rw [partA_set a l j hlt] at hst
        have HST := Lib.hid hst
        have HGS := Lib.hid hgs
        clear hst hgs
        go_wp2_with fail
        go_roundw
        case rel => exact ⟨j + 1, hlt, by first | rfl | (congr 1; omega) | (simp; omega), by simp, by exact HST.out, World.grownBy.trans hg HGS.out⟩
        case measure => simp [intOf]; omega
      · obtain rfl : j = l.length := by omega
        go_wp2_with fail
        go_ret
        refine ⟨rfl, ?_, hg⟩
        have := hO.out
        rw [partA_all] at this
        exact this

theorem held_loopA (a : Int) (ha : 0 ≤ a) (ha1 : a ≤ 1152921504606846976) (n : Nat) (hl : n ≤ 1048576) (d : Nat) : ∀ (k i : Nat), i ≤ n → n - i = d → d < k → laws_heldInt64S.l0 k (marksA a n) (a + (i : Int)) (i : Int) = some (a + (n : Int)) := by
  have hml := marksA_len a n
  induction d with
  | zero =>
    intro k i hi hd hk
    obtain ⟨k, rfl⟩ : ∃ j, k = j + 1 := ⟨k - 1, by omega⟩
    obtain rfl : i = n := by omega
    simp only [laws_heldInt64S.l0]
    rw [if_neg (by omega)]
  | succ d ih =>
    intro k i hi hd hk
    obtain ⟨k, rfl⟩ : ∃ j, k = j + 1 := ⟨k - 1, by omega⟩
    simp only [laws_heldInt64S.l0]
    rw [if_pos (by omega), if_pos (by omega), rdI _ i (by omega), marksA_get, if_pos (by omega), Msh.wrap_fit (by omega) (by omega), up i (by omega), show a + (i : Int) + 1 = a + ((i + 1 : Nat) : Int) by omega]
    exact ih k (i + 1) (by omega) (by omega) (by omega)

theorem held_fA (a : Int) (ha : 0 ≤ a) (ha1 : a ≤ 1152921504606846976) (n : Nat) (hl : n ≤ 1048576) : laws_heldInt64S.f 1048577 (marksA a n) a = some (a + (n : Int)) := by
  unfold laws_heldInt64S.f
  have := held_loopA a ha ha1 n hl n 1048577 0 (by omega) (by omega) (by omega)
  rw [show a + ((0 : Nat) : Int) = a by omega] at this
  exact this

/-- Blocks from a up to b. -/
def In (a b : Nat) (k : Nat) : Prop := a ≤ k ∧ k < b

/-- What was made from base on lies from base up to the world's size. -/
theorem R_in {α : Type} {d : Kd α} {e base : Nat} {w : World} {v : Value} {xs : List α} {ok : Nat → Prop} (h : d.R e w base ok v xs) : d.R e w base (In base w.heap.size) v xs := Kd.R_mono (Kd.R_bound h) (fun k hk => ⟨hk.2.1, hk.2.2.1⟩)
theorem S_in {α : Type} {d : Kd α} {e base : Nat} {w : World} {v : Value} {xs : List α} {ok : Nat → Prop} (h : Kd.S d e w base ok v xs) : Kd.S d e w base (In base w.heap.size) v xs := Kd.S_mono (Kd.S_bound h) (fun k hk => ⟨hk.2.1, hk.2.2.1⟩)

theorem In_off {a b c d : Nat} (h : b ≤ c ∨ d ≤ a) : ∀ k, In a b k → ¬ In c d k := fun k h1 h2 => by unfold In at h1 h2; omega

/-- A grown row of the range: what is not in the range stays. -/
theorem kept_grown {w w' : World} {a b : Nat} {row : Option Nat} (h : w.grownBy w' row) (hr : ∀ k, row = some k → In a b k) : Kept w w' (In a b) := ⟨h.size, fun i hi hn => h.block i hi (fun e => hn (hr i e.symm))⟩
end Go.Proofs.Ytlendjpmblapkaa
namespace Go.Proofs.Ytlendjpmblapkaa
open Go.RowKit Go.Proofs.YtlendjpmblapkaaW.PrintWords Go.Proofs.Ytlendjpmblapkaa.PMesh Msh
set_option linter.unusedVariables false

/-- How many numbers rows hold. -/
def tot : List (List Int) → Nat
  | [] => 0
  | t :: r => t.length + tot r
/-- Rows marked, from a on. -/
def marksT (a : Int) : List (List Int) → List (List Int)
  | [] => []
  | t :: r => marksA a t.length :: marksT (a + (t.length : Int)) r

theorem tot_append (x y : List (List Int)) : tot (x ++ y) = tot x + tot y := by
  induction x with
  | nil => simp [tot]
  | cons t r ih => simp [tot, ih]; omega
theorem marksT_append (x y : List (List Int)) : ∀ a, marksT a (x ++ y) = marksT a x ++ marksT (a + (tot x : Int)) y := by
  induction x with
  | nil => intro a; simp [tot, marksT]
  | cons t r ih =>
    intro a
    simp only [List.cons_append, marksT, tot, ih]
    congr 3
    omega
theorem marksT_len (x : List (List Int)) : ∀ a, (marksT a x).length = x.length := by
  induction x with
  | nil => intro a; rfl
  | cons t r ih => intro a; simp [marksT, ih]
theorem tot_le (T : List (List Int)) (hr : ∀ t ∈ T, t.length ≤ 1048576) : tot T ≤ T.length * 1048576 := by
  induction T with
  | nil => simp [tot]
  | cons t r ih =>
    have h1 := hr t List.mem_cons_self
    have h2 := ih (fun x hx => hr x (List.mem_cons_of_mem _ hx))
    simp only [tot, List.length_cons]
    omega
theorem tot_take (T : List (List Int)) (j : Nat) : tot (T.take j) ≤ tot T := by
  have := tot_append (T.take j) (T.drop j)
  rw [List.take_append_drop] at this
  omega

/-- The first j rows marked. -/
def partT (a : Int) (T : List (List Int)) (j : Nat) : List (List Int) := marksT a (T.take j) ++ T.drop j
theorem partT_zero (a : Int) (T : List (List Int)) : partT a T 0 = T := by simp [partT, marksT]
theorem partT_all (a : Int) (T : List (List Int)) : partT a T T.length = marksT a T := by simp [partT]
theorem partT_len (a : Int) (T : List (List Int)) (j : Nat) (h : j ≤ T.length) : (partT a T j).length = T.length := by simp [partT, marksT_len]; omega
theorem partT_get (a : Int) (T : List (List Int)) (j : Nat) (h : j < T.length) : (partT a T j).getD j [] = T[j] := by
  have hl : (marksT a (T.take j)).length = j := by rw [marksT_len, List.length_take]; omega
  unfold partT
  rw [List.getD_eq_getElem?_getD, List.getElem?_append_right (by omega), hl, Nat.sub_self, List.drop_eq_getElem_cons h]
  rfl
theorem partT_set (a : Int) (T : List (List Int)) (j : Nat) (h : j < T.length) : (partT a T j).set j (marksA (a + (tot (T.take j) : Int)) T[j].length) = partT a T (j + 1) := by
  have hl : (marksT a (T.take j)).length = j := by rw [marksT_len, List.length_take]; omega
  have e2 : T.drop j = T[j] :: T.drop (j + 1) := List.drop_eq_getElem_cons h
  unfold partT
  rw [List.take_succ_eq_append_getElem h, marksT_append, e2, List.set_append, if_neg (by omega), hl, Nat.sub_self, List.set_cons_zero, List.append_assoc]
  rfl
theorem tot_succ (T : List (List Int)) (j : Nat) (h : j < T.length) : tot (T.take (j + 1)) = tot (T.take j) + T[j].length := by
  rw [List.take_succ_eq_append_getElem h, tot_append]
  simp [tot]

set_option maxHeartbeats 1000000 in
set_option maxRecDepth 100000 in
theorem mark_rows (v : Value) (T : List (List Int)) (hT : T.length ≤ 1048576) (hr : ∀ t ∈ T, t.length ≤ 1048576) (a : Int) (ha : 0 ≤ a) (ha1 : a ≤ 1099511627776) (w : World) (base : Nat) (ok : Nat → Prop) (b0 : Nat) (w0 : World) (K : Below b0 w0 w) (hb0 : b0 ≤ base) (hbw : b0 ≤ w.heap.size)
    (h : Kd.S (Kd.slice 2 (Kd.int .i64)) 35 w base ok v T) :
    Calls Try.prog 48 #[v, .int .i64 a] w fun e w' => e = .returned (.int .i64 (a + (tot T : Int))) ∧ Kd.S (Kd.slice 2 (Kd.int .i64)) 35 w' base ok v (marksT a T) ∧ Kept w w' ok ∧ Below b0 w0 w' := by
  have htot := tot_le T hr
  have htot2 : T.length * 1048576 ≤ 1099511627776 := by omega
  by_cases h0 : T.length = 0
  · obtain rfl : T = [] := List.length_eq_zero_iff.1 h0
    obtain ⟨A, c, rfl⟩ := Kd.S_slice h
    have HS := Lib.hid h
    have HK := Lib.hid K
    clear h h0 hT hr K htot htot2
    show Calls Try.prog 48 #[.slice A 0 c, .int .i64 a] w _
    go_enter Try.func48, Try.ntmps48
    go_wp2_with fail
    go_loopw [1, 5] (fun k i wr => wr = w ∧ k = .int .i64 a ∧ i = .int .i64 0) (fun _ _ _ => 0)
    case atStart => exact ⟨rfl, rfl, rfl⟩
    case round =>
      obtain ⟨rfl, rfl, rfl⟩ := hrel
      go_wp2_with fail
      go_ret
      exact ⟨by simp [tot], HS.out, Kept.refl _ _, HK.out⟩
  · obtain ⟨g, c, rfl, hgb, hgl, _⟩ := Kd.S_form h (by omega)
    have HS := Lib.hid h
    have HK := Lib.hid K
    have HR := Lib.hid hr
    clear h K hr hgb hgl
    go_enter Try.func48, Try.ntmps48
    go_wp2_with fail
    go_loopw [1, 5] (fun k i wr => ∃ (j : Nat) (q : Int), j ≤ T.length ∧ k = .int .i64 q ∧ Hid (q = a + (tot (T.take j) : Int)) ∧ i = .int .i64 (j : Int) ∧ Hid (Kd.S (Kd.slice 2 (Kd.int .i64)) 35 wr base ok (.slice (some ⟨g, 0, none⟩) T.length c) (partT a T j)) ∧ Hid (Kept w wr ok) ∧ Hid (Below b0 w0 wr)) (fun _ i _ => T.length - (intOf i).toNat)
    case atStart => exact ⟨0, a, Nat.zero_le _, rfl, by exact Lib.hid (by simp [tot]), rfl, by rw [partT_zero]; exact HS, Lib.hid (Kept.refl _ _), HK⟩
    case round =>
      obtain ⟨j, q, hj, rfl, hq, rfl, hS, hKe, hB⟩ := hrel
      by_cases hlt : j < T.length
      · have b1 : (j : Int) < (T.length : Int) := by omega
        have b2 : (0 : Int) ≤ (j : Int) := by omega
        have b3 : (j : Int) < 1048576 := by omega
        obtain ⟨oki, cc, hcl, hM, hcc, hoki, hbk⟩ := Kd.S_borrow hS.out [] (j : Int) b2 (by omega)
        rw [Int.toNat_natCast, partT_get a T j hlt] at hM
        rw [Int.toNat_natCast] at hcc hbk
        obtain ⟨vi, rfl, hR⟩ := hM
        have hcell := hcc 0 _ rfl
        rw [show (Kd.slice 2 (Kd.int .i64)).sz = 1 from rfl, Nat.mul_one, Nat.add_zero, add_at, Nat.zero_add] at hcell
        obtain ⟨Ai, ci, rfl⟩ := Kd.R_slice hR
        have hlen := HR.out T[j] (List.getElem_mem hlt)
        have htk := tot_take T j
        have hq0 := hq.out
        have hqb : 0 ≤ q ∧ q ≤ 2199023255552 := by omega
        have hqs : q + (T[j].length : Int) = a + (tot (T.take (j + 1)) : Int) := by rw [tot_succ T j hlt]; omega
        have hstep : ∀ (w2 : World), w2.ownsRow base 2 1 (.slice Ai T[j].length ci) T[j].length (encs (Value.int .i64) (marksA q T[j].length)) → wr.grownBy w2 (Value.slice Ai T[j].length ci).ownBlock → Kd.S (Kd.slice 2 (Kd.int .i64)) 35 w2 base ok (.slice (some ⟨g, 0, none⟩) T.length c) (partT a T (j + 1)) ∧ Kept w w2 ok ∧ Below b0 w0 w2 := by
          intro w2 ho hg
          have hin : ∀ k, (Value.slice Ai T[j].length ci).ownBlock = some k → oki k := fun k hk => hR.1 k hk
          refine ⟨?_, Kept.of_grown hg hKe.out (fun k hk => .inl (hoki k (hin k hk)).1), Below.grown hB.out hg (Nat.le_trans hbw hKe.out.1) (fun k hk => Nat.le_trans hb0 (own_base (Kd.own_of_R hR) k hk))⟩
          have := hbk (x' := marksA q T[j].length) hg hin ⟨_, rfl, Kd.R_of_own (by rw [marksA_len]; exact ho) hin⟩
          rw [hq0, partT_set a T j hlt] at this
          exact this
        have HST := Lib.hid hstep
        have HRR := Lib.hid (Kd.own_of_R hR)
        have HQS := Lib.hid hqs
        have hl1 : T[j].length ≤ 1048576 := hlen
        clear hstep hR hcc hbk hq0 hqs hoki hcl hlen htk hq htot htot2 hT ha ha1
        obtain ⟨hq1, hq2⟩ := hqb
        generalize T[j] = t at *
        go_wp2_with (first | (go_at_call 20; refine (mark_ints _ t hl1 q hq1 (by omega) _ base HRR.out).mono ?_; rintro e w2 ⟨rfl, ho, hg⟩; have HN := Lib.hid (HST.out w2 ho hg); clear ho hg) | fail)
        go_roundw
        case rel => exact ⟨j + 1, q + (t.length : Int), hlt, rfl, HQS, by simp, Lib.hid HN.out.1, Lib.hid HN.out.2.1, Lib.hid HN.out.2.2⟩
        case measure => simp [intOf]; omega
      · obtain rfl : j = T.length := by omega
        have hfin := hS.out
        rw [partT_all] at hfin
        have hqf := hq.out
        rw [List.take_length] at hqf
        have HF := Lib.hid hfin
        have HQ := Lib.hid hqf
        clear hfin hqf hS hq
        go_wp2_with fail
        go_ret
        exact ⟨by rw [HQ.out]; rfl, HF.out, hKe.out, hB.out⟩

end Go.Proofs.Ytlendjpmblapkaa
namespace Go.Proofs.Ytlendjpmblapkaa.Msh
open Fl Go.RowKit Go.Proofs.YtlendjpmblapkaaW.PrintWords Go.Proofs.Ytlendjpmblapkaa.PMesh
set_option linter.unusedVariables false

/-- What is known of a mesh that comes in. -/
structure MeshOk (L : List S75) (T : List (List Int)) : Prop where
  lp : L.length ≤ 9223372036854775807
  lt : T.length ≤ 9223372036854775807
  lr : ∀ t ∈ T, t.length ≤ 9223372036854775807
  fl : ∀ x ∈ L, x.f0 < 4294967296 ∧ x.f1 < 4294967296 ∧ x.f2 < 4294967296

theorem map_ok {L : List S75} (h : ∀ x ∈ L, x.f0 < 4294967296 ∧ x.f1 < 4294967296 ∧ x.f2 < 4294967296) : ∀ x ∈ L.map toV, okV x := by
  intro x hx
  obtain ⟨y, hy, rfl⟩ := List.mem_map.1 hx
  exact h y hy

theorem validMesh_pure (L : List S75) (T : List (List Int)) (h : MeshOk L T) : ∃ k, laws_FnExactValidMesh.f k L T = some true := by
  refine ⟨2097156, ?_⟩
  unfold laws_FnExactValidMesh.f
  obtain ⟨r, e, _, hs⟩ := szMesh_f L T h.lp h.lt h.lr 2097156 (by omega) 1048576 (by omega) (by omega)
  rw [e]
  simp only [Option.bind_some]
  by_cases hr : r < 0
  · rw [if_pos hr]
  · rw [if_neg hr]
    obtain ⟨b1, b2, b3⟩ := hs (by omega)
    rw [toMesh_f L T b1 b2 b3 _ (by omega)]
    unfold spec_ValidMesh.f
    simp only [Option.bind_some]
    rw [is_f _ _ _ (by omega), valid_f _ _ _ (by omega)]
    simp only [Option.bind_some]
    rw [if_neg (by simp), eqMesh_f _ _ _ (simP_self (map_ok h.fl)) (by rw [List.length_map]; exact b1) b2 b3 _ (by omega)]
    rfl

end Go.Proofs.Ytlendjpmblapkaa.Msh
namespace Go.Proofs.Ytlendjpmblapkaa
open Go.RowKit Go.Proofs.YtlendjpmblapkaaW.PrintWords Go.Proofs.Ytlendjpmblapkaa.PMesh Msh

theorem fnExactValidMesh_walk (w : World) (A : Option Addr) (c : Nat) (L : List S75) (B : Option Addr) (e : Nat) (T : List (List Int)) (hL : Kd.C k75 w A L.length L) (hc : L.length ≤ c) (hT : Kd.C (Kd.slice 2 (Kd.int .i64)) w B T.length T) (he : T.length ≤ e) (ok : MeshOk L T) :
    Calls Try.prog 3 #[.agg #[.slice A L.length c, .slice B T.length e]] w fun e w' => e = .returned (.bool true) ∧ Below w.heap.size w w' := by
  obtain ⟨k, h⟩ := validMesh_pure L T ok
  exact laws_FnExactValidMesh.calls k A c L B e T true w hL hc hT he ⟨rfl⟩ h

end Go.Proofs.Ytlendjpmblapkaa
namespace Go.Proofs.Ytlendjpmblapkaa
open Go.RowKit Go.Proofs.YtlendjpmblapkaaW.PrintWords Go.Proofs.Ytlendjpmblapkaa.PMesh Msh
set_option linter.unusedVariables false

/-- A mesh of the call's own, its blocks from a up to b. -/
def OwnM (w : World) (a b : Nat) (vP vT : Value) (P : List S46) (T : List (List Int)) : Prop :=
  Kd.R k46 46 w a (In a b) vP P ∧ Kd.S (Kd.slice 2 (Kd.int .i64)) 35 w a (In a b) vT T
/-- A row of numbers of the call's own. -/
def OwnI (w : World) (a b : Nat) (v : Value) (l : List Int) : Prop := Kd.R (Kd.int .i64) 2 w a (In a b) v l
/-- A mesh that came in, as it can be read from w on. -/
def CameM (w : World) (A : Option Addr) (c : Nat) (L : List S75) (B : Option Addr) (e : Nat) (T : List (List Int)) : Prop :=
  Kd.C k75 w A L.length L ∧ L.length ≤ c ∧ Kd.C (Kd.slice 2 (Kd.int .i64)) w B T.length T ∧ T.length ≤ e

section
variable {w w' w0 : World} {a b c d b0 : Nat} {v vP vT : Value} {P : List S46} {T : List (List Int)} {l : List Int}
theorem OwnM.below (h : OwnM w a b vP vT P T) (hb : Below w.heap.size w w') : OwnM w' a b vP vT P T := ⟨Kd.R_below h.1 hb, Kd.S_below h.2 hb⟩
theorem OwnM.drawn (h : OwnM w a b vP vT P T) (hd : Drawn0 w w') : OwnM w' a b vP vT P T := h.below hd.below
theorem OwnM.kept (h : OwnM w a b vP vT P T) (hk : Kept w w' (In c d)) (ho : b ≤ c ∨ d ≤ a) : OwnM w' a b vP vT P T := ⟨Kd.R_kept h.1 hk (In_off ho), Kd.S_kept h.2 hk (In_off ho)⟩
theorem OwnI.below (h : OwnI w a b v l) (hb : Below w.heap.size w w') : OwnI w' a b v l := Kd.R_below h hb
theorem OwnI.drawn (h : OwnI w a b v l) (hd : Drawn0 w w') : OwnI w' a b v l := h.below hd.below
theorem OwnI.kept (h : OwnI w a b v l) (hk : Kept w w' (In c d)) (ho : b ≤ c ∨ d ≤ a) : OwnI w' a b v l := Kd.R_kept h hk (In_off ho)
theorem OwnM.C {A B : Option Addr} {n m e f : Nat} (h : OwnM w a b (.slice A n e) (.slice B m f) P T) : Kd.C k46 w A P.length P ∧ P.length ≤ e ∧ Kd.C (Kd.slice 2 (Kd.int .i64)) w B T.length T ∧ T.length ≤ f := by
  obtain ⟨h1, h2, h3⟩ := Kd.R_reads' h.1
  obtain ⟨h4, h5, h6⟩ := Kd.S_reads' h.2
  exact ⟨h3, by omega, h6, by omega⟩
theorem OwnI.C {A : Option Addr} {n e : Nat} (h : OwnI w a b (.slice A n e) l) : Kd.C (Kd.int .i64) w A l.length l ∧ l.length ≤ e := by
  obtain ⟨h1, h2, h3⟩ := Kd.R_reads' h
  exact ⟨h3, by omega⟩
theorem CameM.below {A B : Option Addr} {c e : Nat} {L : List S75} (h : CameM w A c L B e T) (hb : Below w.heap.size w w') : CameM w' A c L B e T := ⟨Kd.C_below h.1 hb, h.2.1, Kd.C_below h.2.2.1 hb, h.2.2.2⟩
theorem Drawn0.sized (h : Drawn0 w w') : w'.heap.size = w.heap.size := by obtain ⟨m, rfl⟩ := h; rfl
theorem below_then (h : Below b0 w0 w) (hb : Below w.heap.size w w') (hw : b0 ≤ w.heap.size) : Below b0 w0 w' := h.trans (hb.mono hw)
end

/-- A variable that holds a mesh: its block. -/
def BoxAt (W : World) (g : Nat) (t : TypeId) (u v : Value) : Prop := W.heap[g]? = some (.cells #[u, v] t (0, 0))
section
variable {W W' : World} {g c d : Nat} {t : TypeId} {u v : Value}
theorem BoxAt.below (h : BoxAt W g t u v) (hb : Below W.heap.size W W') : BoxAt W' g t u v := (hb.block g (blk_lt h)).trans h
theorem BoxAt.drawn (h : BoxAt W g t u v) (hd : Drawn0 W W') : BoxAt W' g t u v := h.below hd.below
theorem BoxAt.kept (h : BoxAt W g t u v) (hk : Kept W W' (In c d)) (ho : g < c ∨ d ≤ g) : BoxAt W' g t u v := blk_kept h hk (fun hi => by unfold In at hi; omega)
theorem BoxAt.new (W : World) (t : TypeId) (u v : Value) : BoxAt (W.alloc (.cells #[u, v] t)) W.heap.size t u v := heap_alloc_new W _
theorem BoxAt.c0 (h : BoxAt W g t u v) : W.cell? ⟨g, 0, none⟩ = some u := (blk_cell h 0).trans rfl
theorem BoxAt.c1 (h : BoxAt W g t u v) : W.cell? ⟨g, 1, none⟩ = some v := (blk_cell h 1).trans rfl
theorem BoxAt.lt (h : BoxAt W g t u v) : g < W.heap.size := blk_lt h
theorem keep4 {g1 g2 : Nat} {t1 t2 : TypeId} {u1 v1 u2 v2 : Value} {R : World → Prop} (hR : ∀ W W', R W → Below W.heap.size W W' → R W') (hb : Below W.heap.size W W')
    (h : W.cell? ⟨g1, 0, none⟩ = some u1 ∧ W.cell? ⟨g1, 1, none⟩ = some v1 ∧ W.cell? ⟨g2, 0, none⟩ = some u2 ∧ W.cell? ⟨g2, 1, none⟩ = some v2 ∧ BoxAt W g1 t1 u1 v1 ∧ BoxAt W g2 t2 u2 v2 ∧ R W) :
    W'.cell? ⟨g1, 0, none⟩ = some u1 ∧ W'.cell? ⟨g1, 1, none⟩ = some v1 ∧ W'.cell? ⟨g2, 0, none⟩ = some u2 ∧ W'.cell? ⟨g2, 1, none⟩ = some v2 ∧ BoxAt W' g1 t1 u1 v1 ∧ BoxAt W' g2 t2 u2 v2 ∧ R W' := by
  obtain ⟨_, _, _, _, b1, b2, r⟩ := h
  have c1 := b1.below hb
  have c2 := b2.below hb
  exact ⟨c1.c0, c1.c1, c2.c0, c2.c1, c1, c2, hR _ _ r hb⟩
theorem keep4d {g1 g2 : Nat} {t1 t2 : TypeId} {u1 v1 u2 v2 : Value} {R : World → Prop} (hR : ∀ W W', R W → Below W.heap.size W W' → R W')
    (h : W.cell? ⟨g1, 0, none⟩ = some u1 ∧ W.cell? ⟨g1, 1, none⟩ = some v1 ∧ W.cell? ⟨g2, 0, none⟩ = some u2 ∧ W.cell? ⟨g2, 1, none⟩ = some v2 ∧ BoxAt W g1 t1 u1 v1 ∧ BoxAt W g2 t2 u2 v2 ∧ R W) :
    W.drew.cell? ⟨g1, 0, none⟩ = some u1 ∧ W.drew.cell? ⟨g1, 1, none⟩ = some v1 ∧ W.drew.cell? ⟨g2, 0, none⟩ = some u2 ∧ W.drew.cell? ⟨g2, 1, none⟩ = some v2 ∧ BoxAt W.drew g1 t1 u1 v1 ∧ BoxAt W.drew g2 t2 u2 v2 ∧ R W.drew := keep4 hR (Below.drew (Below.refl _ _)) h
theorem rest4 {g1 g2 : Nat} {t1 t2 : TypeId} {u1 v1 u2 v2 : Value} {R : World → Prop}
    (h : W.cell? ⟨g1, 0, none⟩ = some u1 ∧ W.cell? ⟨g1, 1, none⟩ = some v1 ∧ W.cell? ⟨g2, 0, none⟩ = some u2 ∧ W.cell? ⟨g2, 1, none⟩ = some v2 ∧ BoxAt W g1 t1 u1 v1 ∧ BoxAt W g2 t2 u2 v2 ∧ R W) : R W := h.2.2.2.2.2.2
end

/-- Small meshes: what the laws' bound on sizes leaves. -/
def SmallM (L : List S75) (T : List (List Int)) : Prop := L.length ≤ 1048576 ∧ T.length ≤ 1048576 ∧ (∀ t ∈ T, t.length ≤ 1048576)

theorem sz_step (w W : World) (A : Option Addr) (c : Nat) (L : List S75) (B : Option Addr) (e : Nat) (T : List (List Int)) (h : CameM w A c L B e T) (ok : MeshOk L T) (a : Int) (ha : 0 ≤ a) (ha1 : a ≤ 1048576) :
    ∃ r : Int, (0 ≤ r → SmallM L T) ∧ r ≤ 1048576 ∧ ∀ W, Below w.heap.size w W → Calls Try.prog 9 #[.agg #[.slice A L.length c, .slice B T.length e], .int .i64 a] W fun e w' => e = .returned (.int .i64 r) ∧ Below W.heap.size W w' := by
  obtain ⟨r, hr, hr1, hs⟩ := szMesh_f L T ok.lp ok.lt ok.lr 1048578 (by omega) a ha ha1
  refine ⟨r, fun h0 => hs h0, hr1, fun W hb => ?_⟩
  have h' := h.below hb
  exact laws_szMesh.calls 1048578 A c L B e T a r W h'.1 h'.2.1 h'.2.2.1 h'.2.2.2 hr

theorem to_step (w : World) (A : Option Addr) (c : Nat) (L : List S75) (B : Option Addr) (e : Nat) (T : List (List Int)) (h : CameM w A c L B e T) (hs : SmallM L T) (P : List S46) (hP : P = L.map toV) :
    ∀ W, Below w.heap.size w W → Calls Try.prog 11 #[.agg #[.slice A L.length c, .slice B T.length e]] W fun E w' => ∃ A' c' B' e', E = .returned (.agg #[.slice A' P.length c', .slice B' T.length e']) ∧ OwnM w' W.heap.size w'.heap.size (.slice A' P.length c') (.slice B' T.length e') P T ∧ Below W.heap.size W w' ∧ Below w.heap.size w w' := by
  intro W hb
  have h' := h.below hb
  have hf := toMesh_f L T hs.1 hs.2.1 hs.2.2 2097156 (by omega)
  rw [← hP] at hf
  refine (laws_toMesh.calls 2097156 A c L B e T P T W h'.1 h'.2.1 h'.2.2.1 h'.2.2.2 hf).mono ?_
  rintro E w' ⟨v0, v1, rfl, hR, hS, hbw⟩
  obtain ⟨A', c', rfl⟩ := Kd.R_slice hR
  obtain ⟨B', e', rfl⟩ := Kd.S_slice hS
  exact ⟨A', c', B', e', rfl, ⟨R_in hR, S_in hS⟩, hbw, below_then hb hbw hb.size⟩

theorem eq_step (P P' : List S46) (T : List (List Int)) (hp : simP P P') (h1 : P.length ≤ 1048576) (h2 : T.length ≤ 1048576) (h3 : ∀ t ∈ T, t.length ≤ 1048576) (W : World) (A A' B B' : Option Addr) (n n' c c' m m' e e' a b a' b' : Nat)
    (x : OwnM W a b (.slice A P.length c) (.slice B T.length e) P T) (y : OwnM W a' b' (.slice A' P'.length c') (.slice B' T.length e') P' T) :
    Calls Try.prog 13 #[.agg #[.slice A P.length c, .slice B T.length e], .agg #[.slice A' P'.length c', .slice B' T.length e']] W fun E w' => E = .returned (.bool true) ∧ Below W.heap.size W w' :=
  laws_eqMesh.calls 2097156 A c P B e T A' c' P' B' e' T true W x.C.1 x.C.2.1 x.C.2.2.1 x.C.2.2.2 y.C.1 y.C.2.1 y.C.2.2.1 y.C.2.2.2 (eqMesh_f P P' T hp h1 h2 h3 _ (by omega))

theorem eqI_step (l : List Int) (h1 : l.length ≤ 1048576) (W : World) (A A' : Option Addr) (c c' a b a' b' : Nat) (x : OwnI W a b (.slice A l.length c) l) (y : OwnI W a' b' (.slice A' l.length c') l) :
    Calls Try.prog 18 #[.slice A l.length c, .slice A' l.length c'] W fun E w' => E = .returned (.bool true) ∧ Drawn0 W w' :=
  laws_eqInt64S.calls 1048578 A c l A' c' l true W x.C.1 x.C.2 y.C.1 y.C.2 (eqI_f l h1 _ (by omega))

theorem markI_step (l : List Int) (h1 : l.length ≤ 1048576) (q : Int) (hq : 0 ≤ q) (hq1 : q ≤ 1099511627776) (W : World) (A : Option Addr) (c a b : Nat) (x : OwnI W a b (.slice A l.length c) l) (b0 : Nat) (w0 : World) (K : Below b0 w0 W) (hb0 : b0 ≤ a) (hbw : b0 ≤ W.heap.size) :
    Calls Try.prog 20 #[.slice A l.length c, .int .i64 q] W fun E w' => E = .returned (.int .i64 (q + (l.length : Int))) ∧ OwnI w' a b (.slice A l.length c) (marksA q l.length) ∧ Kept W w' (In a b) ∧ Below b0 w0 w' := by
  refine (mark_ints _ l h1 q hq (by omega) W a (Kd.own_of_R x)).mono ?_
  rintro E w' ⟨rfl, ho, hg⟩
  exact ⟨rfl, Kd.R_of_own (by rw [marksA_len]; exact ho) (fun k hk => x.1 k hk), kept_grown hg (fun k hk => x.1 k hk), Below.grown K hg hbw (fun k hk => Nat.le_trans hb0 (x.1 k hk).1)⟩

theorem heldI_step (n : Nat) (h1 : n ≤ 1048576) (q : Int) (hq : 0 ≤ q) (hq1 : q ≤ 1099511627776) (W : World) (A : Option Addr) (c a b : Nat) (x : OwnI W a b (.slice A n c) (marksA q n)) :
    Calls Try.prog 21 #[.slice A n c, .int .i64 q] W fun E w' => E = .returned (.int .i64 (q + (n : Int))) ∧ Drawn0 W w' := by
  have hl := marksA_len q n
  have h := laws_heldInt64S.calls 1048577 A c (marksA q n) q (q + (n : Int)) W x.C.1 x.C.2 (held_fA q hq (by omega) n h1)
  rw [hl] at h
  exact h

theorem own_rebase {w : World} {base base' : Nat} {e : TypeId} {size n : Nat} {v : Value} {xs : List Value} (h : w.ownsRow base e size v n xs) (hb : ∀ k, v.ownBlock = some k → base' ≤ k) : w.ownsRow base' e size v n xs := by
  obtain ⟨h1, h2⟩ := h
  refine ⟨h1, ?_⟩
  rcases h2 with h2 | ⟨g, cap, cur, rfl, hg, r⟩
  · exact .inl h2
  · exact .inr ⟨g, cap, cur, rfl, hb g rfl, r⟩

/-- A vector of three marks. -/
def mkV (q : Int) : S46 := ⟨floatOfInt .f32 q, floatOfInt .f32 (q + 1), floatOfInt .f32 (q + 2)⟩
def marksV (q : Int) (n : Nat) : List S46 := (List.range n).map fun t : Nat => mkV (q + 3 * (t : Int))
theorem marksV_len (q : Int) (n : Nat) : (marksV q n).length = n := by simp [marksV]
theorem marksV_get (q : Int) (n i : Nat) (h : i < (marksV q n).length) : (marksV q n)[i] = mkV (q + 3 * (i : Int)) := by simp [marksV]
def partV (q : Int) (l : List S46) (i : Nat) : List S46 := marksV q i ++ l.drop i
theorem partV_len (q : Int) (l : List S46) (i : Nat) (h : i ≤ l.length) : (partV q l i).length = l.length := by simp [partV, marksV_len]; omega
theorem partV_all (q : Int) (l : List S46) : partV q l l.length = marksV q l.length := by simp [partV]
theorem partV_set (q : Int) (l : List S46) (i : Nat) (h : i < l.length) : (partV q l i).set i (mkV (q + 3 * (i : Int))) = partV q l (i + 1) := by
  have e1 : marksV q (i + 1) = marksV q i ++ [mkV (q + 3 * (i : Int))] := by simp [marksV, List.range_succ]
  have e2 : l.drop i = l[i] :: l.drop (i + 1) := List.drop_eq_getElem_cons h
  have hm : (marksV q i).length = i := marksV_len q i
  unfold partV
  rw [e1, e2, List.set_append, if_neg (by omega), hm, Nat.sub_self, List.set_cons_zero, List.append_assoc]
  rfl
theorem rd_set (Q : List S46) (i : Nat) (h : i < Q.length) (x : S46) : rd_T46 (Q.set i x) (i : Int) = x := by
  rw [rdV _ _ (by rw [List.length_set]; exact h), List.getElem_set_self]

theorem markV_loop (P : List S46) (q : Int) (h0 : 0 ≤ q) (hq : q ≤ 1099511627776) (hP : P.length ≤ 1048576) (d : Nat) : ∀ (k i : Nat), i ≤ P.length → P.length - i = d → d < k → laws_markVectorS.l0 k (partV q P i) (q + 3 * (i : Int)) (i : Int) = some (q + 3 * (P.length : Int), marksV q P.length) := by
  induction d with
  | zero =>
    intro k i hi hd hk
    obtain ⟨k, rfl⟩ : ∃ j, k = j + 1 := ⟨k - 1, by omega⟩
    have hl := partV_len q P i hi
    obtain rfl : i = P.length := by omega
    simp only [laws_markVectorS.l0]
    rw [if_neg (by omega), partV_all]
  | succ d ih =>
    intro k i hi hd hk
    obtain ⟨k, rfl⟩ : ∃ j, k = j + 1 := ⟨k - 1, by omega⟩
    have hl := partV_len q P i hi
    have hil : i < (partV q P i).length := by omega
    simp only [laws_markVectorS.l0]
    rw [if_pos (by omega), if_pos (by omega)]
    simp only [Option.bind_some]
    rw [Msh.wrap_fit (x := q + 3 * (i : Int) + 1) (by omega) (by omega), Msh.wrap_fit (x := q + 3 * (i : Int) + 1 + 1) (by omega) (by omega), Msh.wrap_fit (x := q + 3 * (i : Int) + 1 + 1 + 1) (by omega) (by omega), up i (by omega), Int.toNat_natCast]
    simp only [List.set_set, rd_set _ _ hil]
    have e := ih k (i + 1) (by omega) (by omega) (by omega)
    rw [← partV_set q P i (by omega)] at e
    rw [show q + 3 * (i : Int) + 1 + 1 + 1 = q + 3 * ((i + 1 : Nat) : Int) by omega, show q + 3 * (i : Int) + 1 + 1 = q + 3 * (i : Int) + 2 by omega]
    exact e

theorem markV_step (P : List S46) (h1 : P.length ≤ 1048576) (q : Int) (hq : 0 ≤ q) (hq1 : q ≤ 1099511627776) (W : World) (v : Value) (a b : Nat) (x : Kd.R k46 46 W a (In a b) v P) (w0 : World) (K : Below w0.heap.size w0 W) (hb0 : w0.heap.size ≤ a) :
    Calls Try.prog 47 #[v, .int .i64 q] W fun E w' => E = .returned (.int .i64 (q + 3 * (P.length : Int))) ∧ Kd.R k46 46 w' a (In a b) v (marksV q P.length) ∧ Kept W w' (fun k => some k = v.ownBlock) ∧ Below w0.heap.size w0 w' := by
  have hf := markV_loop P q hq hq1 h1 P.length 1048577 0 (by omega) (by omega) (by omega)
  rw [show q + 3 * ((0 : Nat) : Int) = q by omega, show ((0 : Nat) : Int) = 0 from rfl, show partV q P 0 = P by simp [partV, marksV]] at hf
  have hE : (k46 : Kd S46).E = [] := rfl
  refine (laws_markVectorS.calls 1048577 (fun k => some k = v.ownBlock) v P q (q + 3 * (P.length : Int)) (marksV q P.length) w0 W K (Kd.R_lower (Kd.R_tight hE x) hb0) hf).mono ?_
  rintro E w' ⟨rfl, hR, hB, hK⟩
  refine ⟨rfl, ?_, hK, hB⟩
  refine ⟨x.1, ?_⟩
  obtain ⟨_, inner, ho, hr⟩ := hR
  refine ⟨inner, own_rebase ho (fun k hk => (x.1 k hk).1), hr.imp_ (fun p cs hp => ?_)⟩
  obtain rfl := k46_openM hp
  exact k46_mkM _ _ _ p

set_option maxHeartbeats 1000000 in
theorem markM_step (P : List S46) (T : List (List Int)) (h1 : P.length ≤ 1048576) (h2 : T.length ≤ 1048576) (h3 : ∀ t ∈ T, t.length ≤ 1048576) (q : Int) (hq : 0 ≤ q) (hq1 : q ≤ 8) (W : World) (A B : Option Addr) (c e a b : Nat) (x : OwnM W a b (.slice A P.length c) (.slice B T.length e) P T) (w0 : World) (K : Below w0.heap.size w0 W) (hb0 : w0.heap.size ≤ a) (hbW : b ≤ W.heap.size) :
    Calls Try.prog 19 #[.agg #[.slice A P.length c, .slice B T.length e], .int .i64 q] W fun E w' => E = .returned (.int .i64 (q + 3 * (P.length : Int) + (tot T : Int))) ∧ OwnM w' a b (.slice A P.length c) (.slice B T.length e) (marksV q P.length) (marksT (q + 3 * (P.length : Int)) T) ∧ Kept W w' (In a b) ∧ Below w0.heap.size w0 w' := by
  obtain ⟨xP, xT⟩ := x
  have hxP : ∀ k, (Value.slice A P.length c).ownBlock = some k → In a b k := fun k hk => xP.1 k hk
  have xT2 : Kd.S (Kd.slice 2 (Kd.int .i64)) 35 W a (fun k => In a b k ∧ some k ≠ (Value.slice A P.length c).ownBlock) (.slice B T.length e) T := by
    exact Kd.S_apart' xT (Kd.R_typed xP) (by decide)
  have H0 := Lib.hid hb0
  have XP := Lib.hid (Kd.R_alloc xP (.cells #[.slice A P.length c, .slice B T.length e] 30))
  have XT := Lib.hid (Kd.S_alloc xT2 (.cells #[.slice A P.length c, .slice B T.length e] 30))
  have K1 := Lib.hid (below_alloc K (.cells #[.slice A P.length c, .slice B T.length e] 30))
  have H3 := Lib.hid h3
  have HQ2 : Hid (q + 3 * (P.length : Int) ≤ 1099511627776) := Lib.hid (by omega)
  have hstep : ∀ w1 : World, Kept (W.alloc (.cells #[.slice A P.length c, .slice B T.length e] 30)) w1 (fun k => some k = (Value.slice A P.length c).ownBlock) → w1.cell? ⟨W.heap.size, 1, none⟩ = some (.slice B T.length e) := fun w1 hk =>
    cell_kept ((blk_cell (heap_alloc_new W _) 1).trans rfl) hk (fun h => by have := hxP _ h.symm; unfold In at this; simp only at this; omega)
  have HST := Lib.hid hstep
  have hfin : ∀ w1 w2 : World, Kept (W.alloc (.cells #[.slice A P.length c, .slice B T.length e] 30)) w1 (fun k => some k = (Value.slice A P.length c).ownBlock) → Kept w1 w2 (fun k => In a b k ∧ some k ≠ (Value.slice A P.length c).ownBlock) → Kept W w2 (In a b) := fun w1 w2 k1 k2 =>
    (((Kept.refl W (In a b)).alloc _).then_ k1 (fun k hk => .inl (hxP k hk.symm))).then_ k2 (fun k hk => .inl hk.1)
  have HF := Lib.hid hfin
  have hbw := K.size
  clear xP xT xT2 K h3 hstep hbw hb0 hfin hxP hbW
  go_enter Try.func19, Try.ntmps19
  go_wp2_with (first | (go_at_call 47; refine (markV_step P h1 q hq (by omega) _ _ a b XP.out w0 K1.out H0.out).mono ?_; rintro E w1 ⟨rfl, hR, hK, hB⟩; have hc1 := HST.out w1 hK; have R1 := Lib.hid hR; have KK1 := Lib.hid hK; have B1 := Lib.hid hB; clear hR hK hB) | (go_at_call 48; refine (mark_rows _ T h2 H3.out _ (by omega) HQ2.out _ a _ _ w0 B1.out H0.out B1.out.size (Kd.S_kept XT.out KK1.out (fun k hk he => hk.2 he))).mono ?_; rintro E w2 ⟨rfl, hS, hK2, hB2⟩; have S2 := Lib.hid hS; have KK2 := Lib.hid hK2; have B2 := Lib.hid hB2; clear hS hK2 hB2) | fail)
  go_ret
  have hE : (k46 : Kd S46).E = [] := rfl
  refine ⟨rfl, ⟨?_, Kd.S_mono S2.out (fun k hk => hk.1)⟩, HF.out _ _ KK1.out KK2.out, B2.out⟩
  exact Kd.R_mono (Kd.R_kept (Kd.R_tight2 hE R1.out) KK2.out (fun k hk hn => hn.2 hk.1)) (fun k hk => hk.2)

end Go.Proofs.Ytlendjpmblapkaa
namespace Go.Proofs.Ytlendjpmblapkaa
open Go.RowKit Go.Proofs.YtlendjpmblapkaaW.PrintWords Go.Proofs.Ytlendjpmblapkaa.PMesh Msh
set_option linter.unusedVariables false

/-- A mesh's variable. -/
abbrev VarM (w0 W : World) (g : Nat) (Q : List S46) (T : List (List Int)) : Prop := IsS30 w0 W g Q T

theorem varM_new (w : World) (A : Option Addr) (c : Nat) (Q : List S46) (B : Option Addr) (e : Nat) (T : List (List Int)) (hQ : Kd.C k46 w A Q.length Q) (hT : Kd.C (Kd.slice 2 (Kd.int .i64)) w B T.length T) :
    Hid (VarM w (w.alloc (.cells #[.slice A Q.length c, .slice B T.length e] 30)) w.heap.size Q T) := Lib.hid (IsS30.new w w A c B e Q T (Below.refl _ _) hQ hT)

theorem is_step (Q : List S46) (T : List (List Int)) (r : Bool) (hr : validB Q.length T = r) (g : Nat) (w0 W : World) (hI : VarM w0 W g Q T) (hB : Below w0.heap.size w0 W) :
    Calls Try.prog 32 #[.pointer (some ⟨g, 0, none⟩)] W fun e w' => e = .returned (.bool r) ∧ Hid (VarM w0 w' g Q T) ∧ Hid (Below w0.heap.size w0 w') := by
  refine (spec_l02Is.calls 201 g Q T r w0 W hI hB (by rw [is_f Q T 201 (by omega), hr])).mono ?_
  rintro e w' ⟨rfl, h1, h2, _⟩
  exact ⟨rfl, Lib.hid h1, Lib.hid h2⟩

theorem place_step (Q : List S46) (T : List (List Int)) (hn : Q.length ≤ 64) (a : Int) (r : Bool) (hr : inB Q.length a = r) (g : Nat) (w0 W : World) (hI : VarM w0 W g Q T) (hB : Below w0.heap.size w0 W) :
    Calls Try.prog 43 #[.pointer (some ⟨g, 0, none⟩), .int .i64 a] W fun e w' => e = .returned (.bool r) ∧ Hid (VarM w0 w' g Q T) ∧ Hid (Below w0.heap.size w0 w') := by
  refine (spec_l02Place.calls g Q T a r w0 W hI hB (by unfold spec_l02Place.f; rw [in_f _ hn, hr]; rfl)).mono ?_
  rintro e w' ⟨rfl, h1, h2, _⟩
  exact ⟨rfl, Lib.hid h1, Lib.hid h2⟩

theorem at_step (Q : List S46) (T : List (List Int)) (hv : validB Q.length T = true) (a b : Int) (g : Nat) (w0 W : World) (hI : VarM w0 W g Q T) (hB : Below w0.heap.size w0 W) :
    Calls Try.prog 44 #[.pointer (some ⟨g, 0, none⟩), .int .i64 a, .int .i64 b] W fun e w' => ∃ v : Value, e = .returned v ∧ Hid (Kd.R (Kd.int .i64) 2 w' W.heap.size (fun _ => True) v (withL [a, b] 0 T)) ∧ Hid (VarM w0 w' g Q T) ∧ Hid (Below w0.heap.size w0 w') := by
  refine (spec_l02At.calls 200 g Q T a b _ w0 W hI hB (at_f Q T hv a b)).mono ?_
  rintro e w' ⟨v, rfl, h0, h1, h2, _⟩
  exact ⟨v, rfl, Lib.hid h0, Lib.hid h1, Lib.hid h2⟩

/-- What a function with a list and a bool leaves. -/
def AnsI (w : World) (r : List Int × Bool) (E : Ending) (w' : World) : Prop := ∃ v : Value, E = .returned (.tuple #[v, .bool r.2]) ∧ Kd.R (Kd.int .i64) 2 w' w.heap.size (fun _ => True) v r.1 ∧ Below w.heap.size w w'

set_option maxHeartbeats 1000000 in
theorem spec_TrianglesAt (A : Option Addr) (c : Nat) (Q : List S46) (B : Option Addr) (e : Nat) (T : List (List Int)) (a b : Int) (w : World) (hQ : Kd.C k46 w A Q.length Q) (hT : Kd.C (Kd.slice 2 (Kd.int .i64)) w B T.length T) :
    Calls Try.prog 16 #[.agg #[.slice A Q.length c, .slice B T.length e], .int .i64 a, .int .i64 b] w (AnsI w (triAt Q.length T a b)) := by
  have HI := varM_new w A c Q B e T hQ hT
  have HB0 := Lib.hid (Below.alloc (Below.refl w.heap.size w) (Nat.le_refl _) (.cells #[.slice A Q.length c, .slice B T.length e] 30))
  clear hQ hT
  by_cases hv : validB Q.length T = true
  · have hn : Q.length ≤ 64 := (validB_iff.1 hv).1
    by_cases ha : inB Q.length a = true
    · by_cases hb : inB Q.length b = true
      · by_cases e1 : a = b
        · obtain rfl := e1
          have hr : triAt Q.length T a a = ([], false) := by unfold triAt; rw [if_neg (by simp)]
          rw [hr]
          have HV := Lib.hid hv; have HA := Lib.hid ha; have HBB := Lib.hid hb
          clear hv ha hb hr
          go_enter Try.func16, Try.ntmps16
          go_wp2_with (first | (go_at_call 32; refine (is_step Q T true HV.out _ w _ HI.out HB0.out).mono ?_; rintro e w1 ⟨rfl, I1, B1⟩) | (go_at_call 43; first | ((with_reducible refine (place_step Q T hn a true HBB.out _ w _ I2.out B2.out).mono ?_); rintro e w3 ⟨rfl, I3, B3⟩) | ((with_reducible refine (place_step Q T hn a true HA.out _ w _ I1.out B1.out).mono ?_); rintro e w2 ⟨rfl, I2, B2⟩)) | fail)
          go_ret2
          exact ⟨_, rfl, Kd.R_nil _ _ _ _ _, B3.out⟩
        · have hr : triAt Q.length T a b = (withL [a, b] 0 T, true) := by unfold triAt; rw [if_pos (by simp [hv, ha, hb, e1])]
          rw [hr]
          have e2 : (a == b) = false := by simp [e1]
          have HV := Lib.hid hv; have HA := Lib.hid ha; have HBB := Lib.hid hb
          clear hv ha hb hr e1
          go_enter Try.func16, Try.ntmps16
          go_wp2_with (first | (go_at_call 44; refine (at_step Q T HV.out a b _ w _ I3.out B3.out).mono ?_; rintro e w4 ⟨v, rfl, R4, I4, B4⟩) | (go_at_call 32; refine (is_step Q T true HV.out _ w _ HI.out HB0.out).mono ?_; rintro e w1 ⟨rfl, I1, B1⟩) | (go_at_call 43; first | ((with_reducible refine (place_step Q T hn b true HBB.out _ w _ I2.out B2.out).mono ?_); rintro e w3 ⟨rfl, I3, B3⟩) | ((with_reducible refine (place_step Q T hn a true HA.out _ w _ I1.out B1.out).mono ?_); rintro e w2 ⟨rfl, I2, B2⟩)) | fail)
          go_ret2
          exact ⟨_, rfl, Kd.R_lower R4.out B3.out.size, B4.out⟩
      · have hr : triAt Q.length T a b = ([], false) := by unfold triAt; rw [if_neg (by simp [hb])]
        rw [hr]
        have hb' := Bool.eq_false_iff.2 hb
        have HV := Lib.hid hv; have HA := Lib.hid ha; have HBB := Lib.hid hb'
        clear hv ha hb hr hb'
        go_enter Try.func16, Try.ntmps16
        go_wp2_with (first | (go_at_call 32; refine (is_step Q T true HV.out _ w _ HI.out HB0.out).mono ?_; rintro e w1 ⟨rfl, I1, B1⟩) | (go_at_call 43; first | ((with_reducible refine (place_step Q T hn b false HBB.out _ w _ I2.out B2.out).mono ?_); rintro e w3 ⟨rfl, I3, B3⟩) | ((with_reducible refine (place_step Q T hn a true HA.out _ w _ I1.out B1.out).mono ?_); rintro e w2 ⟨rfl, I2, B2⟩)) | fail)
        go_ret2
        exact ⟨_, rfl, Kd.R_nil _ _ _ _ _, B3.out⟩
    · have hr : triAt Q.length T a b = ([], false) := by unfold triAt; rw [if_neg (by simp [ha])]
      rw [hr]
      have ha' := Bool.eq_false_iff.2 ha
      have HV := Lib.hid hv; have HA := Lib.hid ha'
      clear hv ha hr ha'
      go_enter Try.func16, Try.ntmps16
      go_wp2_with (first | (go_at_call 32; refine (is_step Q T true HV.out _ w _ HI.out HB0.out).mono ?_; rintro e w1 ⟨rfl, I1, B1⟩) | (go_at_call 43; ((with_reducible refine (place_step Q T hn a false HA.out _ w _ I1.out B1.out).mono ?_); rintro e w2 ⟨rfl, I2, B2⟩)) | fail)
      go_ret2
      exact ⟨_, rfl, Kd.R_nil _ _ _ _ _, B2.out⟩
  · have hr : triAt Q.length T a b = ([], false) := by unfold triAt; rw [if_neg (by simp [hv])]
    rw [hr]
    have hv' := Bool.eq_false_iff.2 hv
    have HV := Lib.hid hv'
    clear hv hv' hr
    go_enter Try.func16, Try.ntmps16
    go_wp2_with (first | (go_at_call 32; refine (is_step Q T false HV.out _ w _ HI.out HB0.out).mono ?_; rintro e w1 ⟨rfl, I1, B1⟩) | fail)
    go_ret2
    exact ⟨_, rfl, Kd.R_nil _ _ _ _ _, B1.out⟩

set_option maxHeartbeats 1000000 in
theorem spec_TrianglesOf (A : Option Addr) (c : Nat) (Q : List S46) (B : Option Addr) (e : Nat) (T : List (List Int)) (a : Int) (w : World) (hQ : Kd.C k46 w A Q.length Q) (hT : Kd.C (Kd.slice 2 (Kd.int .i64)) w B T.length T) :
    Calls Try.prog 22 #[.agg #[.slice A Q.length c, .slice B T.length e], .int .i64 a] w (AnsI w (triOf Q.length T a)) := by
  have HI := varM_new w A c Q B e T hQ hT
  have HB0 := Lib.hid (Below.alloc (Below.refl w.heap.size w) (Nat.le_refl _) (.cells #[.slice A Q.length c, .slice B T.length e] 30))
  clear hQ hT
  by_cases hv : validB Q.length T = true
  · have hn : Q.length ≤ 64 := (validB_iff.1 hv).1
    by_cases ha : inB Q.length a = true
    · have hr : triOf Q.length T a = (withL [a, a] 0 T, true) := by unfold triOf; rw [if_pos (by simp [hv, ha]), withL_same]
      rw [hr]
      have HV := Lib.hid hv; have HA := Lib.hid ha
      clear hv ha hr
      go_enter Try.func22, Try.ntmps22
      go_wp2_with (first | (go_at_call 44; refine (at_step Q T HV.out a a _ w _ I2.out B2.out).mono ?_; rintro e w4 ⟨v, rfl, R4, I4, B4⟩) | (go_at_call 32; refine (is_step Q T true HV.out _ w _ HI.out HB0.out).mono ?_; rintro e w1 ⟨rfl, I1, B1⟩) | (go_at_call 43; ((with_reducible refine (place_step Q T hn a true HA.out _ w _ I1.out B1.out).mono ?_); rintro e w2 ⟨rfl, I2, B2⟩)) | fail)
      go_ret2
      exact ⟨_, rfl, Kd.R_lower R4.out B2.out.size, B4.out⟩
    · have hr : triOf Q.length T a = ([], false) := by unfold triOf; rw [if_neg (by simp [ha])]
      rw [hr]
      have ha' := Bool.eq_false_iff.2 ha
      have HV := Lib.hid hv; have HA := Lib.hid ha'
      clear hv ha hr ha'
      go_enter Try.func22, Try.ntmps22
      go_wp2_with (first | (go_at_call 32; refine (is_step Q T true HV.out _ w _ HI.out HB0.out).mono ?_; rintro e w1 ⟨rfl, I1, B1⟩) | (go_at_call 43; ((with_reducible refine (place_step Q T hn a false HA.out _ w _ I1.out B1.out).mono ?_); rintro e w2 ⟨rfl, I2, B2⟩)) | fail)
      go_ret2
      exact ⟨_, rfl, Kd.R_nil _ _ _ _ _, B2.out⟩
  · have hr : triOf Q.length T a = ([], false) := by unfold triOf; rw [if_neg (by simp [hv])]
    rw [hr]
    have hv' := Bool.eq_false_iff.2 hv
    have HV := Lib.hid hv'
    clear hv hv' hr
    go_enter Try.func22, Try.ntmps22
    go_wp2_with (first | (go_at_call 32; refine (is_step Q T false HV.out _ w _ HI.out HB0.out).mono ?_; rintro e w1 ⟨rfl, I1, B1⟩) | fail)
    go_ret2
    exact ⟨_, rfl, Kd.R_nil _ _ _ _ _, B1.out⟩

end Go.Proofs.Ytlendjpmblapkaa
namespace Go.Proofs.Ytlendjpmblapkaa
open Fl Go.RowKit
set_option linter.unusedVariables false

/-- Block B of three cells, which may be written. -/
def Cells3 (w : World) (B : Nat) (v0 v1 v2 : Value) : Prop :=
  w.cell? ⟨B, 0, none⟩ = some v0 ∧ w.cell? ⟨B, 1, none⟩ = some v1 ∧ w.cell? ⟨B, 2, none⟩ = some v2 ∧ w.frozen? ⟨B, 0, none⟩ = false ∧ w.frozen? ⟨B, 1, none⟩ = false ∧ w.frozen? ⟨B, 2, none⟩ = false ∧ B < w.heap.size

theorem Cells3.new (w : World) (v0 v1 v2 : Value) (t : TypeId) : Cells3 (w.alloc (.cells #[v0, v1, v2] t)) w.heap.size v0 v1 v2 := by
  refine ⟨by simp [go_sem], by simp [go_sem], by simp [go_sem], by simp [go_sem], by simp [go_sem], by simp [go_sem], by simp⟩

theorem Cells3.below {w w' : World} {B : Nat} {v0 v1 v2 : Value} (hb : Below w.heap.size w w') (h : Cells3 w B v0 v1 v2) : Cells3 w' B v0 v1 v2 := by
  obtain ⟨h0, h1, h2, z0, z1, z2, hs⟩ := h
  exact ⟨(hb.cell hs).trans h0, (hb.cell hs).trans h1, (hb.cell hs).trans h2, (hb.frozen hs).trans z0, (hb.frozen hs).trans z1, (hb.frozen hs).trans z2, Nat.lt_of_lt_of_le hs hb.size⟩

theorem Cells3.set {w : World} {B : Nat} {u0 u1 u2 v0 v1 v2 : Value} (h : Cells3 w B u0 u1 u2) : Cells3 (((w.setCell ⟨B, 0, none⟩ v0).setCell ⟨B, 1, none⟩ v1).setCell ⟨B, 2, none⟩ v2) B v0 v1 v2 := by
  obtain ⟨h0, h1, h2, z0, z1, z2, hs⟩ := h
  refine ⟨?_, ?_, ?_, ?_, ?_, ?_, by simpa using hs⟩
  · rw [World.cell?_setCell_other _ _ _ _ (by simp), World.cell?_setCell_other _ _ _ _ (by simp)]; exact World.cell?_setCell_same _ _ _ h0
  · rw [World.cell?_setCell_other _ _ _ _ (by simp)]; refine World.cell?_setCell_same (u := u1) _ _ _ ?_; rw [World.cell?_setCell_other _ _ _ _ (by simp)]; exact h1
  · refine World.cell?_setCell_same (u := u2) _ _ _ ?_; rw [World.cell?_setCell_other _ _ _ _ (by simp), World.cell?_setCell_other _ _ _ _ (by simp)]; exact h2
  · simp [go_sem, z0]
  · simp [go_sem, z1]
  · simp [go_sem, z2]

theorem Cells3.drew {w : World} {B : Nat} {v0 v1 v2 : Value} (h : Cells3 w B v0 v1 v2) : Cells3 w.drew B v0 v1 v2 := h
theorem Cells3.drewN {w : World} {B : Nat} {v0 v1 v2 : Value} (h : Cells3 w B v0 v1 v2) (n : Nat) : Cells3 (w.drewN n) B v0 v1 v2 := h
theorem Cells3.alloc {w : World} {B : Nat} {v0 v1 v2 : Value} (h : Cells3 w B v0 v1 v2) (o : Obj) : Cells3 (w.alloc o) B v0 v1 v2 :=
  h.below (Below.alloc (Below.refl _ _) (Nat.le_refl _) o)

theorem Below.set3 {B0 B : Nat} {w0 w : World} (h : Below B0 w0 w) (hB : B0 ≤ B) (v0 v1 v2 : Value) : Below B0 w0 (((w.setCell ⟨B, 0, none⟩ v0).setCell ⟨B, 1, none⟩ v1).setCell ⟨B, 2, none⟩ v2) :=
  Below.setCell (Below.setCell (Below.setCell h hB _) hB _) hB _

theorem Cells3.other {w : World} {B B2 : Nat} {v0 v1 v2 : Value} (h : Cells3 w B v0 v1 v2) (hlt : B < B2) (u0 u1 u2 : Value) : Cells3 (((w.setCell ⟨B2, 0, none⟩ u0).setCell ⟨B2, 1, none⟩ u1).setCell ⟨B2, 2, none⟩ u2) B v0 v1 v2 := by
  have hb : Below (B + 1) w (((w.setCell ⟨B2, 0, none⟩ u0).setCell ⟨B2, 1, none⟩ u1).setCell ⟨B2, 2, none⟩ u2) := Below.set3 (Below.refl _ _) hlt _ _ _
  obtain ⟨h0, h1, h2, z0, z1, z2, hs⟩ := h
  exact ⟨(hb.cell (Nat.lt_succ_self B)).trans h0, (hb.cell (Nat.lt_succ_self B)).trans h1, (hb.cell (Nat.lt_succ_self B)).trans h2, (hb.frozen (Nat.lt_succ_self B)).trans z0, (hb.frozen (Nat.lt_succ_self B)).trans z1, (hb.frozen (Nat.lt_succ_self B)).trans z2, by simpa using hs⟩

theorem keep2b {w0 w1 w2 : World} {a b c x y z : Nat} (hb : Below (w0.heap.size + 2) w1 w2) (h : w1.cell? ⟨w0.heap.size, 0, none⟩ = some (.float .f32 a) ∧ w1.cell? ⟨w0.heap.size, 1, none⟩ = some (.float .f32 b) ∧ w1.cell? ⟨w0.heap.size, 2, none⟩ = some (.float .f32 c) ∧ w1.cell? ⟨w0.heap.size + 1, 0, none⟩ = some (.float .f32 x) ∧ w1.cell? ⟨w0.heap.size + 1, 1, none⟩ = some (.float .f32 y) ∧ w1.cell? ⟨w0.heap.size + 1, 2, none⟩ = some (.float .f32 z) ∧ w0.heap.size + 2 ≤ w1.heap.size ∧ Below w0.heap.size w0 w1) : w2.cell? ⟨w0.heap.size, 0, none⟩ = some (.float .f32 a) ∧ w2.cell? ⟨w0.heap.size, 1, none⟩ = some (.float .f32 b) ∧ w2.cell? ⟨w0.heap.size, 2, none⟩ = some (.float .f32 c) ∧ w2.cell? ⟨w0.heap.size + 1, 0, none⟩ = some (.float .f32 x) ∧ w2.cell? ⟨w0.heap.size + 1, 1, none⟩ = some (.float .f32 y) ∧ w2.cell? ⟨w0.heap.size + 1, 2, none⟩ = some (.float .f32 z) ∧ w0.heap.size + 2 ≤ w2.heap.size ∧ Below w0.heap.size w0 w2 := by
  obtain ⟨h0, h1, h2, h3, h4, h5, h6, h7⟩ := h
  refine ⟨(hb.cell ?_).trans h0, (hb.cell ?_).trans h1, (hb.cell ?_).trans h2, (hb.cell ?_).trans h3, (hb.cell ?_).trans h4, (hb.cell ?_).trans h5, ?_, h7.trans (hb.mono ?_)⟩
  all_goals first | (show w0.heap.size < _; omega) | (show w0.heap.size + 1 < _; omega) | (have := hb.size; omega) | omega

theorem keep2a {w0 w1 : World} {a b c x y z : Nat} (o : Obj) (h : w1.cell? ⟨w0.heap.size, 0, none⟩ = some (.float .f32 a) ∧ w1.cell? ⟨w0.heap.size, 1, none⟩ = some (.float .f32 b) ∧ w1.cell? ⟨w0.heap.size, 2, none⟩ = some (.float .f32 c) ∧ w1.cell? ⟨w0.heap.size + 1, 0, none⟩ = some (.float .f32 x) ∧ w1.cell? ⟨w0.heap.size + 1, 1, none⟩ = some (.float .f32 y) ∧ w1.cell? ⟨w0.heap.size + 1, 2, none⟩ = some (.float .f32 z) ∧ w0.heap.size + 2 ≤ w1.heap.size ∧ Below w0.heap.size w0 w1) : (w1.alloc o).cell? ⟨w0.heap.size, 0, none⟩ = some (.float .f32 a) ∧ (w1.alloc o).cell? ⟨w0.heap.size, 1, none⟩ = some (.float .f32 b) ∧ (w1.alloc o).cell? ⟨w0.heap.size, 2, none⟩ = some (.float .f32 c) ∧ (w1.alloc o).cell? ⟨w0.heap.size + 1, 0, none⟩ = some (.float .f32 x) ∧ (w1.alloc o).cell? ⟨w0.heap.size + 1, 1, none⟩ = some (.float .f32 y) ∧ (w1.alloc o).cell? ⟨w0.heap.size + 1, 2, none⟩ = some (.float .f32 z) ∧ w0.heap.size + 2 ≤ (w1.alloc o).heap.size ∧ Below w0.heap.size w0 (w1.alloc o) := keep2b (w1 := w1) (Below.alloc (Below.refl _ _) h.2.2.2.2.2.2.1 o) h

theorem lo_of {w0 w1 w2 : World} {a b c x y z : Nat} (hb : Below w1.heap.size w1 w2) (h : w1.cell? ⟨w0.heap.size, 0, none⟩ = some (.float .f32 a) ∧ w1.cell? ⟨w0.heap.size, 1, none⟩ = some (.float .f32 b) ∧ w1.cell? ⟨w0.heap.size, 2, none⟩ = some (.float .f32 c) ∧ w1.cell? ⟨w0.heap.size + 1, 0, none⟩ = some (.float .f32 x) ∧ w1.cell? ⟨w0.heap.size + 1, 1, none⟩ = some (.float .f32 y) ∧ w1.cell? ⟨w0.heap.size + 1, 2, none⟩ = some (.float .f32 z) ∧ w0.heap.size + 2 ≤ w1.heap.size ∧ Below w0.heap.size w0 w1) : w0.heap.size + 2 ≤ w2.heap.size := Nat.le_trans h.2.2.2.2.2.2.1 hb.size

theorem lo_of3 {w0 w1 w2 : World} {a b c x y z B : Nat} {u0 u1 u2 : Value} (hb : Below w1.heap.size w1 w2) (h : w1.cell? ⟨w0.heap.size, 0, none⟩ = some (.float .f32 a) ∧ w1.cell? ⟨w0.heap.size, 1, none⟩ = some (.float .f32 b) ∧ w1.cell? ⟨w0.heap.size, 2, none⟩ = some (.float .f32 c) ∧ w1.cell? ⟨w0.heap.size + 1, 0, none⟩ = some (.float .f32 x) ∧ w1.cell? ⟨w0.heap.size + 1, 1, none⟩ = some (.float .f32 y) ∧ w1.cell? ⟨w0.heap.size + 1, 2, none⟩ = some (.float .f32 z) ∧ w0.heap.size + 2 ≤ w1.heap.size ∧ Below w0.heap.size w0 w1 ∧ Cells3 w1 B u0 u1 u2) : w0.heap.size + 2 ≤ w2.heap.size ∧ B < w2.heap.size := ⟨Nat.le_trans h.2.2.2.2.2.2.1 hb.size, Nat.lt_of_lt_of_le h.2.2.2.2.2.2.2.2.2.2.2.2.2.2 hb.size⟩

theorem keep2c {w0 w1 : World} {a b c x y z : Nat} (o o' : Obj) (lo : w0.heap.size + 2 ≤ w1.heap.size) (h : (w1.alloc o).cell? ⟨w0.heap.size, 0, none⟩ = some (.float .f32 a) ∧ (w1.alloc o).cell? ⟨w0.heap.size, 1, none⟩ = some (.float .f32 b) ∧ (w1.alloc o).cell? ⟨w0.heap.size, 2, none⟩ = some (.float .f32 c) ∧ (w1.alloc o).cell? ⟨w0.heap.size + 1, 0, none⟩ = some (.float .f32 x) ∧ (w1.alloc o).cell? ⟨w0.heap.size + 1, 1, none⟩ = some (.float .f32 y) ∧ (w1.alloc o).cell? ⟨w0.heap.size + 1, 2, none⟩ = some (.float .f32 z) ∧ w0.heap.size + 2 ≤ (w1.alloc o).heap.size ∧ Below w0.heap.size w0 (w1.alloc o)) : (w1.alloc o').cell? ⟨w0.heap.size, 0, none⟩ = some (.float .f32 a) ∧ (w1.alloc o').cell? ⟨w0.heap.size, 1, none⟩ = some (.float .f32 b) ∧ (w1.alloc o').cell? ⟨w0.heap.size, 2, none⟩ = some (.float .f32 c) ∧ (w1.alloc o').cell? ⟨w0.heap.size + 1, 0, none⟩ = some (.float .f32 x) ∧ (w1.alloc o').cell? ⟨w0.heap.size + 1, 1, none⟩ = some (.float .f32 y) ∧ (w1.alloc o').cell? ⟨w0.heap.size + 1, 2, none⟩ = some (.float .f32 z) ∧ w0.heap.size + 2 ≤ (w1.alloc o').heap.size ∧ Below w0.heap.size w0 (w1.alloc o') := by
  obtain ⟨h0, h1, h2, h3, h4, h5, h6, h7⟩ := h
  have e : ∀ b i, b < w1.heap.size → (w1.alloc o).cell? ⟨b, i, none⟩ = (w1.alloc o').cell? ⟨b, i, none⟩ := fun b i hb => (World.cell?_alloc_lt _ _ _ hb).trans (World.cell?_alloc_lt _ _ _ hb).symm
  refine ⟨(e _ _ (by omega)).symm.trans h0, (e _ _ (by omega)).symm.trans h1, (e _ _ (by omega)).symm.trans h2, (e _ _ (by omega)).symm.trans h3, (e _ _ (by omega)).symm.trans h4, (e _ _ (by omega)).symm.trans h5, by simpa using h6, ?_⟩
  refine ⟨h7.os, h7.tape, h7.output, by simpa using h7.size, fun k hk => ?_⟩
  rw [← h7.block k hk, Below.heap_alloc _ _ _ (by omega), Below.heap_alloc _ _ _ (by omega)]

theorem keep2s {w0 w1 : World} {a b c x y z B : Nat} (v0 v1 v2 : Value) (hB : w0.heap.size + 2 ≤ B) (h : w1.cell? ⟨w0.heap.size, 0, none⟩ = some (.float .f32 a) ∧ w1.cell? ⟨w0.heap.size, 1, none⟩ = some (.float .f32 b) ∧ w1.cell? ⟨w0.heap.size, 2, none⟩ = some (.float .f32 c) ∧ w1.cell? ⟨w0.heap.size + 1, 0, none⟩ = some (.float .f32 x) ∧ w1.cell? ⟨w0.heap.size + 1, 1, none⟩ = some (.float .f32 y) ∧ w1.cell? ⟨w0.heap.size + 1, 2, none⟩ = some (.float .f32 z) ∧ w0.heap.size + 2 ≤ w1.heap.size ∧ Below w0.heap.size w0 w1) : (((w1.setCell ⟨B, 0, none⟩ v0).setCell ⟨B, 1, none⟩ v1).setCell ⟨B, 2, none⟩ v2).cell? ⟨w0.heap.size, 0, none⟩ = some (.float .f32 a) ∧ (((w1.setCell ⟨B, 0, none⟩ v0).setCell ⟨B, 1, none⟩ v1).setCell ⟨B, 2, none⟩ v2).cell? ⟨w0.heap.size, 1, none⟩ = some (.float .f32 b) ∧ (((w1.setCell ⟨B, 0, none⟩ v0).setCell ⟨B, 1, none⟩ v1).setCell ⟨B, 2, none⟩ v2).cell? ⟨w0.heap.size, 2, none⟩ = some (.float .f32 c) ∧ (((w1.setCell ⟨B, 0, none⟩ v0).setCell ⟨B, 1, none⟩ v1).setCell ⟨B, 2, none⟩ v2).cell? ⟨w0.heap.size + 1, 0, none⟩ = some (.float .f32 x) ∧ (((w1.setCell ⟨B, 0, none⟩ v0).setCell ⟨B, 1, none⟩ v1).setCell ⟨B, 2, none⟩ v2).cell? ⟨w0.heap.size + 1, 1, none⟩ = some (.float .f32 y) ∧ (((w1.setCell ⟨B, 0, none⟩ v0).setCell ⟨B, 1, none⟩ v1).setCell ⟨B, 2, none⟩ v2).cell? ⟨w0.heap.size + 1, 2, none⟩ = some (.float .f32 z) ∧ w0.heap.size + 2 ≤ (((w1.setCell ⟨B, 0, none⟩ v0).setCell ⟨B, 1, none⟩ v1).setCell ⟨B, 2, none⟩ v2).heap.size ∧ Below w0.heap.size w0 (((w1.setCell ⟨B, 0, none⟩ v0).setCell ⟨B, 1, none⟩ v1).setCell ⟨B, 2, none⟩ v2) := keep2b (w1 := w1) (Below.set3 (Below.refl _ _) hB v0 v1 v2) h

theorem keep3 {w0 w1 w2 : World} {a b c x y z B : Nat} {u0 u1 u2 : Value} (hb : Below w1.heap.size w1 w2) (h : w1.cell? ⟨w0.heap.size, 0, none⟩ = some (.float .f32 a) ∧ w1.cell? ⟨w0.heap.size, 1, none⟩ = some (.float .f32 b) ∧ w1.cell? ⟨w0.heap.size, 2, none⟩ = some (.float .f32 c) ∧ w1.cell? ⟨w0.heap.size + 1, 0, none⟩ = some (.float .f32 x) ∧ w1.cell? ⟨w0.heap.size + 1, 1, none⟩ = some (.float .f32 y) ∧ w1.cell? ⟨w0.heap.size + 1, 2, none⟩ = some (.float .f32 z) ∧ w0.heap.size + 2 ≤ w1.heap.size ∧ Below w0.heap.size w0 w1 ∧ Cells3 w1 B u0 u1 u2) : w2.cell? ⟨w0.heap.size, 0, none⟩ = some (.float .f32 a) ∧ w2.cell? ⟨w0.heap.size, 1, none⟩ = some (.float .f32 b) ∧ w2.cell? ⟨w0.heap.size, 2, none⟩ = some (.float .f32 c) ∧ w2.cell? ⟨w0.heap.size + 1, 0, none⟩ = some (.float .f32 x) ∧ w2.cell? ⟨w0.heap.size + 1, 1, none⟩ = some (.float .f32 y) ∧ w2.cell? ⟨w0.heap.size + 1, 2, none⟩ = some (.float .f32 z) ∧ w0.heap.size + 2 ≤ w2.heap.size ∧ Below w0.heap.size w0 w2 ∧ Cells3 w2 B u0 u1 u2 := by
  obtain ⟨h0, h1, h2, h3, h4, h5, h6, h7, h8⟩ := h
  obtain ⟨k0, k1, k2, k3, k4, k5, k6, k7⟩ := keep2 (w1 := w1) hb ⟨h0, h1, h2, h3, h4, h5, h6, h7⟩
  exact ⟨k0, k1, k2, k3, k4, k5, k6, k7, h8.below hb⟩

theorem keep3d {w0 w1 : World} {a b c x y z B : Nat} {u0 u1 u2 : Value} (h : w1.cell? ⟨w0.heap.size, 0, none⟩ = some (.float .f32 a) ∧ w1.cell? ⟨w0.heap.size, 1, none⟩ = some (.float .f32 b) ∧ w1.cell? ⟨w0.heap.size, 2, none⟩ = some (.float .f32 c) ∧ w1.cell? ⟨w0.heap.size + 1, 0, none⟩ = some (.float .f32 x) ∧ w1.cell? ⟨w0.heap.size + 1, 1, none⟩ = some (.float .f32 y) ∧ w1.cell? ⟨w0.heap.size + 1, 2, none⟩ = some (.float .f32 z) ∧ w0.heap.size + 2 ≤ w1.heap.size ∧ Below w0.heap.size w0 w1) (h8 : Cells3 w1 B u0 u1 u2) : w1.drew.cell? ⟨w0.heap.size, 0, none⟩ = some (.float .f32 a) ∧ w1.drew.cell? ⟨w0.heap.size, 1, none⟩ = some (.float .f32 b) ∧ w1.drew.cell? ⟨w0.heap.size, 2, none⟩ = some (.float .f32 c) ∧ w1.drew.cell? ⟨w0.heap.size + 1, 0, none⟩ = some (.float .f32 x) ∧ w1.drew.cell? ⟨w0.heap.size + 1, 1, none⟩ = some (.float .f32 y) ∧ w1.drew.cell? ⟨w0.heap.size + 1, 2, none⟩ = some (.float .f32 z) ∧ w0.heap.size + 2 ≤ w1.drew.heap.size ∧ Below w0.heap.size w0 w1.drew ∧ Cells3 w1.drew B u0 u1 u2 := by
  obtain ⟨k0, k1, k2, k3, k4, k5, k6, k7⟩ := keep2d (w1 := w1) h
  exact ⟨k0, k1, k2, k3, k4, k5, k6, k7, h8⟩

theorem keep3a {w0 w1 : World} {a b c x y z B : Nat} {u0 u1 u2 : Value} (o : Obj) (h : w1.cell? ⟨w0.heap.size, 0, none⟩ = some (.float .f32 a) ∧ w1.cell? ⟨w0.heap.size, 1, none⟩ = some (.float .f32 b) ∧ w1.cell? ⟨w0.heap.size, 2, none⟩ = some (.float .f32 c) ∧ w1.cell? ⟨w0.heap.size + 1, 0, none⟩ = some (.float .f32 x) ∧ w1.cell? ⟨w0.heap.size + 1, 1, none⟩ = some (.float .f32 y) ∧ w1.cell? ⟨w0.heap.size + 1, 2, none⟩ = some (.float .f32 z) ∧ w0.heap.size + 2 ≤ w1.heap.size ∧ Below w0.heap.size w0 w1 ∧ Cells3 w1 B u0 u1 u2) : (w1.alloc o).cell? ⟨w0.heap.size, 0, none⟩ = some (.float .f32 a) ∧ (w1.alloc o).cell? ⟨w0.heap.size, 1, none⟩ = some (.float .f32 b) ∧ (w1.alloc o).cell? ⟨w0.heap.size, 2, none⟩ = some (.float .f32 c) ∧ (w1.alloc o).cell? ⟨w0.heap.size + 1, 0, none⟩ = some (.float .f32 x) ∧ (w1.alloc o).cell? ⟨w0.heap.size + 1, 1, none⟩ = some (.float .f32 y) ∧ (w1.alloc o).cell? ⟨w0.heap.size + 1, 2, none⟩ = some (.float .f32 z) ∧ w0.heap.size + 2 ≤ (w1.alloc o).heap.size ∧ Below w0.heap.size w0 (w1.alloc o) ∧ Cells3 (w1.alloc o) B u0 u1 u2 := by
  obtain ⟨h0, h1, h2, h3, h4, h5, h6, h7, h8⟩ := h
  obtain ⟨k0, k1, k2, k3, k4, k5, k6, k7⟩ := keep2a (w1 := w1) o ⟨h0, h1, h2, h3, h4, h5, h6, h7⟩
  exact ⟨k0, k1, k2, k3, k4, k5, k6, k7, h8.alloc o⟩

theorem keep3c {w0 w1 : World} {a b c x y z B : Nat} {u0 u1 u2 : Value} (o o' : Obj) (lo : w0.heap.size + 2 ≤ w1.heap.size ∧ B < w1.heap.size) (h : (w1.alloc o).cell? ⟨w0.heap.size, 0, none⟩ = some (.float .f32 a) ∧ (w1.alloc o).cell? ⟨w0.heap.size, 1, none⟩ = some (.float .f32 b) ∧ (w1.alloc o).cell? ⟨w0.heap.size, 2, none⟩ = some (.float .f32 c) ∧ (w1.alloc o).cell? ⟨w0.heap.size + 1, 0, none⟩ = some (.float .f32 x) ∧ (w1.alloc o).cell? ⟨w0.heap.size + 1, 1, none⟩ = some (.float .f32 y) ∧ (w1.alloc o).cell? ⟨w0.heap.size + 1, 2, none⟩ = some (.float .f32 z) ∧ w0.heap.size + 2 ≤ (w1.alloc o).heap.size ∧ Below w0.heap.size w0 (w1.alloc o) ∧ Cells3 (w1.alloc o) B u0 u1 u2) : (w1.alloc o').cell? ⟨w0.heap.size, 0, none⟩ = some (.float .f32 a) ∧ (w1.alloc o').cell? ⟨w0.heap.size, 1, none⟩ = some (.float .f32 b) ∧ (w1.alloc o').cell? ⟨w0.heap.size, 2, none⟩ = some (.float .f32 c) ∧ (w1.alloc o').cell? ⟨w0.heap.size + 1, 0, none⟩ = some (.float .f32 x) ∧ (w1.alloc o').cell? ⟨w0.heap.size + 1, 1, none⟩ = some (.float .f32 y) ∧ (w1.alloc o').cell? ⟨w0.heap.size + 1, 2, none⟩ = some (.float .f32 z) ∧ w0.heap.size + 2 ≤ (w1.alloc o').heap.size ∧ Below w0.heap.size w0 (w1.alloc o') ∧ Cells3 (w1.alloc o') B u0 u1 u2 := by
  obtain ⟨h0, h1, h2, h3, h4, h5, h6, h7, f0, f1, f2, z0, z1, z2, hs⟩ := h
  obtain ⟨k0, k1, k2, k3, k4, k5, k6, k7⟩ := keep2c (w1 := w1) o o' lo.1 ⟨h0, h1, h2, h3, h4, h5, h6, h7⟩
  have e : ∀ i, (w1.alloc o).cell? ⟨B, i, none⟩ = (w1.alloc o').cell? ⟨B, i, none⟩ := fun i => (World.cell?_alloc_lt _ _ _ lo.2).trans (World.cell?_alloc_lt _ _ _ lo.2).symm
  have b1 : Below (B + 1) w1 (w1.alloc o) := Below.alloc (Below.refl _ _) lo.2 o
  have b2 : Below (B + 1) w1 (w1.alloc o') := Below.alloc (Below.refl _ _) lo.2 o'
  have hB : B < B + 1 := Nat.lt_succ_self B
  exact ⟨k0, k1, k2, k3, k4, k5, k6, k7, (e _).symm.trans f0, (e _).symm.trans f1, (e _).symm.trans f2, (b2.frozen hB).trans ((b1.frozen hB).symm.trans z0), (b2.frozen hB).trans ((b1.frozen hB).symm.trans z1), (b2.frozen hB).trans ((b1.frozen hB).symm.trans z2), Nat.lt_of_lt_of_le lo.2 (by simp)⟩

theorem keep3da {w0 w1 : World} {a b c x y z B : Nat} {u0 u1 u2 : Value} (o : Obj) (h : w1.cell? ⟨w0.heap.size, 0, none⟩ = some (.float .f32 a) ∧ w1.cell? ⟨w0.heap.size, 1, none⟩ = some (.float .f32 b) ∧ w1.cell? ⟨w0.heap.size, 2, none⟩ = some (.float .f32 c) ∧ w1.cell? ⟨w0.heap.size + 1, 0, none⟩ = some (.float .f32 x) ∧ w1.cell? ⟨w0.heap.size + 1, 1, none⟩ = some (.float .f32 y) ∧ w1.cell? ⟨w0.heap.size + 1, 2, none⟩ = some (.float .f32 z) ∧ w0.heap.size + 2 ≤ w1.heap.size ∧ Below w0.heap.size w0 w1) (h8 : Cells3 w1 B u0 u1 u2) : (w1.alloc o).drew.cell? ⟨w0.heap.size, 0, none⟩ = some (.float .f32 a) ∧ (w1.alloc o).drew.cell? ⟨w0.heap.size, 1, none⟩ = some (.float .f32 b) ∧ (w1.alloc o).drew.cell? ⟨w0.heap.size, 2, none⟩ = some (.float .f32 c) ∧ (w1.alloc o).drew.cell? ⟨w0.heap.size + 1, 0, none⟩ = some (.float .f32 x) ∧ (w1.alloc o).drew.cell? ⟨w0.heap.size + 1, 1, none⟩ = some (.float .f32 y) ∧ (w1.alloc o).drew.cell? ⟨w0.heap.size + 1, 2, none⟩ = some (.float .f32 z) ∧ w0.heap.size + 2 ≤ (w1.alloc o).drew.heap.size ∧ Below w0.heap.size w0 (w1.alloc o).drew ∧ Cells3 (w1.alloc o).drew B u0 u1 u2 := by
  obtain ⟨k0, k1, k2, k3, k4, k5, k6, k7⟩ := keep2a (w1 := w1) o h
  exact ⟨k0, k1, k2, k3, k4, k5, k6, Below.drew k7, h8.alloc o⟩

theorem keep3s {w0 w1 : World} {a b c x y z B B2 : Nat} {u0 u1 u2 : Value} (v0 v1 v2 : Value) (hB : w0.heap.size + 2 ≤ B2) (hlt : B < B2) (h : w1.cell? ⟨w0.heap.size, 0, none⟩ = some (.float .f32 a) ∧ w1.cell? ⟨w0.heap.size, 1, none⟩ = some (.float .f32 b) ∧ w1.cell? ⟨w0.heap.size, 2, none⟩ = some (.float .f32 c) ∧ w1.cell? ⟨w0.heap.size + 1, 0, none⟩ = some (.float .f32 x) ∧ w1.cell? ⟨w0.heap.size + 1, 1, none⟩ = some (.float .f32 y) ∧ w1.cell? ⟨w0.heap.size + 1, 2, none⟩ = some (.float .f32 z) ∧ w0.heap.size + 2 ≤ w1.heap.size ∧ Below w0.heap.size w0 w1 ∧ Cells3 w1 B u0 u1 u2) : (((w1.setCell ⟨B2, 0, none⟩ v0).setCell ⟨B2, 1, none⟩ v1).setCell ⟨B2, 2, none⟩ v2).cell? ⟨w0.heap.size, 0, none⟩ = some (.float .f32 a) ∧ (((w1.setCell ⟨B2, 0, none⟩ v0).setCell ⟨B2, 1, none⟩ v1).setCell ⟨B2, 2, none⟩ v2).cell? ⟨w0.heap.size, 1, none⟩ = some (.float .f32 b) ∧ (((w1.setCell ⟨B2, 0, none⟩ v0).setCell ⟨B2, 1, none⟩ v1).setCell ⟨B2, 2, none⟩ v2).cell? ⟨w0.heap.size, 2, none⟩ = some (.float .f32 c) ∧ (((w1.setCell ⟨B2, 0, none⟩ v0).setCell ⟨B2, 1, none⟩ v1).setCell ⟨B2, 2, none⟩ v2).cell? ⟨w0.heap.size + 1, 0, none⟩ = some (.float .f32 x) ∧ (((w1.setCell ⟨B2, 0, none⟩ v0).setCell ⟨B2, 1, none⟩ v1).setCell ⟨B2, 2, none⟩ v2).cell? ⟨w0.heap.size + 1, 1, none⟩ = some (.float .f32 y) ∧ (((w1.setCell ⟨B2, 0, none⟩ v0).setCell ⟨B2, 1, none⟩ v1).setCell ⟨B2, 2, none⟩ v2).cell? ⟨w0.heap.size + 1, 2, none⟩ = some (.float .f32 z) ∧ w0.heap.size + 2 ≤ (((w1.setCell ⟨B2, 0, none⟩ v0).setCell ⟨B2, 1, none⟩ v1).setCell ⟨B2, 2, none⟩ v2).heap.size ∧ Below w0.heap.size w0 (((w1.setCell ⟨B2, 0, none⟩ v0).setCell ⟨B2, 1, none⟩ v1).setCell ⟨B2, 2, none⟩ v2) ∧ Cells3 (((w1.setCell ⟨B2, 0, none⟩ v0).setCell ⟨B2, 1, none⟩ v1).setCell ⟨B2, 2, none⟩ v2) B u0 u1 u2 := by
  obtain ⟨h0, h1, h2, h3, h4, h5, h6, h7, h8⟩ := h
  obtain ⟨k0, k1, k2, k3, k4, k5, k6, k7⟩ := keep2s (w1 := w1) v0 v1 v2 hB ⟨h0, h1, h2, h3, h4, h5, h6, h7⟩
  exact ⟨k0, k1, k2, k3, k4, k5, k6, k7, h8.other hlt v0 v1 v2⟩
end Go.Proofs.Ytlendjpmblapkaa
namespace Go.Proofs.Ytlendjpmblapkaa
open Fl Go.RowKit Go.Proofs.YtlendjpmblapkaaW.PrintWords Go.Proofs.Ytlendjpmblapkaa.PMesh Msh
set_option linter.unusedVariables false

/-- The values of the vector across two sides. -/
def crossV (a x y : S46) : Option Nat × Option Nat × Option Nat :=
  let u0 := bin .sub .f32 (val .f32 x.f0) (val .f32 a.f0); let u1 := bin .sub .f32 (val .f32 x.f1) (val .f32 a.f1); let u2 := bin .sub .f32 (val .f32 x.f2) (val .f32 a.f2)
  let v0 := bin .sub .f32 (val .f32 y.f0) (val .f32 a.f0); let v1 := bin .sub .f32 (val .f32 y.f1) (val .f32 a.f1); let v2 := bin .sub .f32 (val .f32 y.f2) (val .f32 a.f2)
  (bin .sub .f32 (bin .mul .f32 u1 v2) (bin .mul .f32 u2 v1), bin .sub .f32 (bin .mul .f32 u2 v0) (bin .mul .f32 u0 v2), bin .sub .f32 (bin .mul .f32 u0 v1) (bin .mul .f32 u1 v0))
/-- Three floats with these values are handed back. -/
def RetV (X : Option Nat × Option Nat × Option Nat) (E : Ending) : Prop := ∃ p q r, E = .returned (.agg #[.float .f32 p, .float .f32 q, .float .f32 r]) ∧ FR .f32 p X.1 ∧ FR .f32 q X.2.1 ∧ FR .f32 r X.2.2

/-- What a region that reads five cells keeps. -/
theorem keepc5 {w W : World} {a0 a1 a2 a3 a4 : Addr} {v0 v1 v2 v3 v4 : Value} (h0 : w.cell? a0 = some v0) (h1 : w.cell? a1 = some v1) (h2 : w.cell? a2 = some v2) (h3 : w.cell? a3 = some v3) (h4 : w.cell? a4 = some v4) (hb : Below w.heap.size w W) :
    W.cell? a0 = some v0 ∧ W.cell? a1 = some v1 ∧ W.cell? a2 = some v2 ∧ W.cell? a3 = some v3 ∧ W.cell? a4 = some v4 ∧ Below w.heap.size w W :=
  ⟨(hb.cell (World.block_lt_of_cell? _ _ h0)).trans h0, (hb.cell (World.block_lt_of_cell? _ _ h1)).trans h1, (hb.cell (World.block_lt_of_cell? _ _ h2)).trans h2, (hb.cell (World.block_lt_of_cell? _ _ h3)).trans h3, (hb.cell (World.block_lt_of_cell? _ _ h4)).trans h4, hb⟩
theorem lastc5 {w W : World} {a0 a1 a2 a3 a4 : Addr} {v0 v1 v2 v3 v4 : Value} (h : W.cell? a0 = some v0 ∧ W.cell? a1 = some v1 ∧ W.cell? a2 = some v2 ∧ W.cell? a3 = some v3 ∧ W.cell? a4 = some v4 ∧ Below w.heap.size w W) : Below w.heap.size w W := h.2.2.2.2.2

/-- A block of three cells that can be written. -/
def C3E (W : World) (g : Nat) : Prop := ∃ v0 v1 v2, Cells3 W g v0 v1 v2
theorem C3E.below {w W : World} {g : Nat} (h : C3E w g) (hb : Below w.heap.size w W) : C3E W g := by obtain ⟨_, _, _, h⟩ := h; exact ⟨_, _, _, h.below hb⟩
theorem C3E.drew {w : World} {g : Nat} (h : C3E w g) : C3E w.drew g := h
theorem C3E.set3 {w : World} {g : Nat} {u0 u1 u2 : Value} (h : C3E w g) : C3E (((w.setCell ⟨g, 0, none⟩ u0).setCell ⟨g, 1, none⟩ u1).setCell ⟨g, 2, none⟩ u2) g := by obtain ⟨_, _, _, h⟩ := h; exact ⟨_, _, _, h.set⟩
theorem kept_cell {w W : World} {g : Nat} {a : Addr} {v : Value} (hk : Kept w W (fun k => k = g)) (h : w.cell? a = some v) (hne : a.block ≠ g) : W.cell? a = some v := cell_kept h hk hne
theorem old_cell {w W : World} {a : Addr} {v : Value} (hb : Below w.heap.size w W) (h : w.cell? a = some v) : W.cell? a = some v := (hb.cell (World.block_lt_of_cell? _ _ h)).trans h

set_option maxHeartbeats 4000000 in
theorem impl_normalOf (A : Option Addr) (c : Nat) (Q : List S46) (v1 : Value) (C : Option Addr) (cc : Nat) (t : List Int) (w : World) (hQ : Kd.C k46 w A Q.length Q) (hC : Kd.C (Kd.int .i64) w C t.length t) (h3 : t.length = 3)
    (i0 : 0 ≤ rd t 0) (j0 : rd t 0 < Q.length) (i1 : 0 ≤ rd t 1) (j1 : rd t 1 < Q.length) (i2 : 0 ≤ rd t 2) (j2 : rd t 2 < Q.length) :
    Calls Try.prog 52 #[.agg #[.slice A Q.length c, v1], .slice C t.length cc] w fun E w' => RetV (crossV (rd_T46 Q (rd t 0)) (rd_T46 Q (rd t 1)) (rd_T46 Q (rd t 2))) E ∧ Below w.heap.size w w' := by
  obtain ⟨ca, rfl, g0⟩ := Kd.at_int hC 0 (by omega) (by omega)
  obtain ⟨_, e1, g1⟩ := Kd.at_int hC 1 (by omega) (by omega)
  obtain ⟨_, e2, g2⟩ := Kd.at_int hC 2 (by omega) (by omega)
  cases e1; cases e2
  replace g0 : w.cell? ca = some (.int .i64 (rd t 0)) := g0
  replace g1 : w.cell? ⟨ca.block, ca.off + 1, none⟩ = some (.int .i64 (rd t 1)) := g1
  replace g2 : w.cell? ⟨ca.block, ca.off + 2, none⟩ = some (.int .i64 (rd t 2)) := g2
  obtain ⟨pa, rfl, x0, x1, x2⟩ := at_T46 hQ _ i0 j0
  obtain ⟨_, e3, y0, y1, y2⟩ := at_T46 hQ _ i1 j1
  obtain ⟨_, e4, z0, z1, z2⟩ := at_T46 hQ _ i2 j2
  cases e3; cases e4
  generalize rd_T46 Q (rd t 0) = X at *
  generalize rd_T46 Q (rd t 1) = Y at *
  generalize rd_T46 Q (rd t 2) = Z at *
  generalize rd t 0 = t0 at *
  generalize rd t 1 = t1 at *
  generalize rd t 2 = t2 at *
  generalize Q.length = n at *
  rw [h3]
  clear hQ hC h3
  replace i0 := eq_true i0; replace i1 := eq_true i1; replace i2 := eq_true i2; replace j0 := eq_true j0; replace j1 := eq_true j1; replace j2 := eq_true j2
  obtain ⟨W1, hW1⟩ : ∃ W, W = (w.alloc (.cells #[.slice (some pa) n c, v1] 30)).alloc (.cells #[.float .f32 0, .float .f32 0, .float .f32 0] 46) := ⟨_, rfl⟩
  have HB1 : Below w.heap.size w W1 := by rw [hW1]; (repeat (first | exact Below.refl _ _ | assumption | (refine Below.drewN ?_ _) | (refine Below.setCell ?_ (by first | (simp; done) | (simp; omega)) _) | (refine Below.drew ?_) | (refine Below.alloc ?_ (by first | (simp; done) | (simp; omega)) _)))
  have b0 : W1.cell? ⟨w.heap.size, 0, none⟩ = some (.slice (some pa) n c) := by rw [hW1]; simp [go_sem]
  have G0 := (HB1.cell (World.block_lt_of_cell? _ _ g0)).trans g0
  have X0 := (HB1.cell (World.block_lt_of_cell? _ _ x0)).trans x0
  have X1 := (HB1.cell (World.block_lt_of_cell? _ _ x1)).trans x1
  have X2 := (HB1.cell (World.block_lt_of_cell? _ _ x2)).trans x2
  have K1 := Lib.hid (fun (W : World) (hb : Below W1.heap.size W1 W) => keepc5 b0 G0 X0 X1 X2 hb)
  have S1 := keepc5 b0 G0 X0 X1 X2 (Below.refl _ _)
  clear b0 G0 X0 X1 X2
  go_enter Try.func52, Try.ntmps52
  go_wp2_with fail
  rw [← hW1]
  have HW1 := Lib.hid hW1
  clear hW1
  go_region_held3 (fun W => W.cell? ⟨w.heap.size, 0, none⟩ = some (.slice (some pa) n c) ∧ W.cell? ca = some (.int .i64 t0) ∧ W.cell? (pa.add (t0.toNat * 3)) = some (.float .f32 X.f0) ∧ W.cell? ⟨(pa.add (t0.toNat * 3)).block, (pa.add (t0.toNat * 3)).off + 1, none⟩ = some (.float .f32 X.f1) ∧ W.cell? ⟨(pa.add (t0.toNat * 3)).block, (pa.add (t0.toNat * 3)).off + 2, none⟩ = some (.float .f32 X.f2) ∧ Below W1.heap.size W1 W)
    (first | with_reducible assumption | (refine K1.out _ ?_; repeat (first | exact Below.refl _ _ | (with_reducible exact lastc5 (by with_reducible assumption)) | (refine Below.drewN ?_ _) | (refine Below.setCell ?_ (by first | (simp; done) | (simp; omega)) _) | (refine Below.drew ?_) | (refine Below.alloc ?_ (by first | (simp; done) | (simp; omega)) _))))
    (first | fail)
  rename_i Q' K' hK' hH
  refine hK' _ _ ?_
  clear hK' K' hH
  obtain ⟨W2, hW2⟩ : ∃ W, W = (W1.alloc (.cells #[.float .f32 X.f0, .float .f32 X.f1, .float .f32 X.f2] 46)).drew := ⟨_, rfl⟩
  have hs1 : W1.heap.size = w.heap.size + 2 := by rw [HW1.out]; simp
  have HB2 : Below w.heap.size w W2 := by rw [hW2]; exact Below.drew (Below.alloc HB1 (by omega) _)
  have HB12 : Below W1.heap.size W1 W2 := by rw [hW2]; exact Below.drew (Below.alloc (Below.refl _ _) (Nat.le_refl _) _)
  have hs2 : W2.heap.size = w.heap.size + 3 := by rw [hW2]; simp [hs1]
  have b0 : W2.cell? ⟨w.heap.size, 0, none⟩ = some (.slice (some pa) n c) := old_cell HB12 S1.1
  have hc3 : C3E W2 (w.heap.size + 1) := by
    refine C3E.below ?_ HB12
    refine ⟨.float .f32 0, .float .f32 0, .float .f32 0, ?_⟩
    have := Cells3.new (w.alloc (.cells #[.slice (some pa) n c, v1] 30)) (.float .f32 0) (.float .f32 0) (.float .f32 0) 46
    rw [← HW1.out] at this
    simpa using this
  obtain ⟨x0', x1', x2', xz⟩ : Cells3 W2 W1.heap.size (.float .f32 X.f0) (.float .f32 X.f1) (.float .f32 X.f2) := by rw [hW2]; exact Cells3.drew (Cells3.new W1 _ _ _ _)
  have K2 := Lib.hid (fun (W : World) (hk : Kept W2 W (fun k => k = w.heap.size + 1)) (hc : C3E W (w.heap.size + 1)) (hb : Below w.heap.size w W) =>
    (⟨kept_cell hk b0 (by show w.heap.size ≠ _; omega), old_cell hb g1, old_cell hb g2, old_cell hb y0, old_cell hb y1, old_cell hb y2, old_cell hb z0, old_cell hb z1, old_cell hb z2, kept_cell hk x0' (by show W1.heap.size ≠ _; omega), kept_cell hk x1' (by show W1.heap.size ≠ _; omega), kept_cell hk x2' (by show W1.heap.size ≠ _; omega), hk, hc, hb⟩ : W.cell? ⟨w.heap.size, 0, none⟩ = some (.slice (some pa) n c) ∧ W.cell? ⟨ca.block, ca.off + 1, none⟩ = some (.int .i64 t1) ∧ W.cell? ⟨ca.block, ca.off + 2, none⟩ = some (.int .i64 t2) ∧ W.cell? (pa.add (t1.toNat * 3)) = some (.float .f32 Y.f0) ∧ W.cell? ⟨(pa.add (t1.toNat * 3)).block, (pa.add (t1.toNat * 3)).off + 1, none⟩ = some (.float .f32 Y.f1) ∧ W.cell? ⟨(pa.add (t1.toNat * 3)).block, (pa.add (t1.toNat * 3)).off + 2, none⟩ = some (.float .f32 Y.f2) ∧ W.cell? (pa.add (t2.toNat * 3)) = some (.float .f32 Z.f0) ∧ W.cell? ⟨(pa.add (t2.toNat * 3)).block, (pa.add (t2.toNat * 3)).off + 1, none⟩ = some (.float .f32 Z.f1) ∧ W.cell? ⟨(pa.add (t2.toNat * 3)).block, (pa.add (t2.toNat * 3)).off + 2, none⟩ = some (.float .f32 Z.f2) ∧ W.cell? ⟨W1.heap.size, 0, none⟩ = some (.float .f32 X.f0) ∧ W.cell? ⟨W1.heap.size, 1, none⟩ = some (.float .f32 X.f1) ∧ W.cell? ⟨W1.heap.size, 2, none⟩ = some (.float .f32 X.f2) ∧ Kept W2 W (fun k => k = w.heap.size + 1) ∧ C3E W (w.heap.size + 1) ∧ Below w.heap.size w W))
  have S2 := K2.out W2 (Kept.refl _ _) hc3 HB2
  have KL := Lib.hid (fun (W : World) (h : W.cell? ⟨w.heap.size, 0, none⟩ = some (.slice (some pa) n c) ∧ W.cell? ⟨ca.block, ca.off + 1, none⟩ = some (.int .i64 t1) ∧ W.cell? ⟨ca.block, ca.off + 2, none⟩ = some (.int .i64 t2) ∧ W.cell? (pa.add (t1.toNat * 3)) = some (.float .f32 Y.f0) ∧ W.cell? ⟨(pa.add (t1.toNat * 3)).block, (pa.add (t1.toNat * 3)).off + 1, none⟩ = some (.float .f32 Y.f1) ∧ W.cell? ⟨(pa.add (t1.toNat * 3)).block, (pa.add (t1.toNat * 3)).off + 2, none⟩ = some (.float .f32 Y.f2) ∧ W.cell? (pa.add (t2.toNat * 3)) = some (.float .f32 Z.f0) ∧ W.cell? ⟨(pa.add (t2.toNat * 3)).block, (pa.add (t2.toNat * 3)).off + 1, none⟩ = some (.float .f32 Z.f1) ∧ W.cell? ⟨(pa.add (t2.toNat * 3)).block, (pa.add (t2.toNat * 3)).off + 2, none⟩ = some (.float .f32 Z.f2) ∧ W.cell? ⟨W1.heap.size, 0, none⟩ = some (.float .f32 X.f0) ∧ W.cell? ⟨W1.heap.size, 1, none⟩ = some (.float .f32 X.f1) ∧ W.cell? ⟨W1.heap.size, 2, none⟩ = some (.float .f32 X.f2) ∧ Kept W2 W (fun k => k = w.heap.size + 1) ∧ C3E W (w.heap.size + 1) ∧ Below w.heap.size w W) => h.2.2.2.2.2.2.2.2.2.2.2.2)
  rw [← hW2]
  clear xz hW2 b0 hc3 x0' x1' x2' HB12 S1 K1 HB2 HB1 g0 g1 g2 x0 x1 x2 y0 y1 y2 z0 z1 z2 i0 j0 hs1 hs2
  go_wp2_with fail
  go_region_held3 (fun W => W.cell? ⟨w.heap.size, 0, none⟩ = some (.slice (some pa) n c) ∧ W.cell? ⟨ca.block, ca.off + 1, none⟩ = some (.int .i64 t1) ∧ W.cell? ⟨ca.block, ca.off + 2, none⟩ = some (.int .i64 t2) ∧ W.cell? (pa.add (t1.toNat * 3)) = some (.float .f32 Y.f0) ∧ W.cell? ⟨(pa.add (t1.toNat * 3)).block, (pa.add (t1.toNat * 3)).off + 1, none⟩ = some (.float .f32 Y.f1) ∧ W.cell? ⟨(pa.add (t1.toNat * 3)).block, (pa.add (t1.toNat * 3)).off + 2, none⟩ = some (.float .f32 Y.f2) ∧ W.cell? (pa.add (t2.toNat * 3)) = some (.float .f32 Z.f0) ∧ W.cell? ⟨(pa.add (t2.toNat * 3)).block, (pa.add (t2.toNat * 3)).off + 1, none⟩ = some (.float .f32 Z.f1) ∧ W.cell? ⟨(pa.add (t2.toNat * 3)).block, (pa.add (t2.toNat * 3)).off + 2, none⟩ = some (.float .f32 Z.f2) ∧ W.cell? ⟨W1.heap.size, 0, none⟩ = some (.float .f32 X.f0) ∧ W.cell? ⟨W1.heap.size, 1, none⟩ = some (.float .f32 X.f1) ∧ W.cell? ⟨W1.heap.size, 2, none⟩ = some (.float .f32 X.f2) ∧ Kept W2 W (fun k => k = w.heap.size + 1) ∧ C3E W (w.heap.size + 1) ∧ Below w.heap.size w W)
    (first
      | (with_reducible assumption)
      | (with_reducible exact K2.out _ (KL.out _ (by with_reducible assumption)).1.drew (KL.out _ (by with_reducible assumption)).2.1.drew (Below.drew (KL.out _ (by with_reducible assumption)).2.2))
      | (with_reducible exact K2.out _ ((KL.out _ (by with_reducible assumption)).1.below (by with_reducible assumption)) ((KL.out _ (by with_reducible assumption)).2.1.below (by with_reducible assumption)) (below_then (KL.out _ (by with_reducible assumption)).2.2 (by with_reducible assumption) (KL.out _ (by with_reducible assumption)).2.2.size))
      | (with_reducible exact K2.out _ ((((KL.out _ (by with_reducible assumption)).1.setCell (.inl rfl) _).setCell (.inl rfl) _).setCell (.inl rfl) _) (KL.out _ (by with_reducible assumption)).2.1.set3 (Below.set3 (KL.out _ (by with_reducible assumption)).2.2 (Nat.le_succ _) _ _ _)))
    (first
      | (go_at_call 69; first
          | ((with_reducible refine (impl_LessVectors Y.f0 Y.f1 Y.f2 X.f0 X.f1 X.f2 _).mono ?_); rintro E w' ⟨p1, q1, r1, rfl, hp1, hq1, hr1, hb⟩)
          | ((with_reducible refine (impl_LessVectors Z.f0 Z.f1 Z.f2 X.f0 X.f1 X.f2 _).mono ?_); rintro E w' ⟨p2, q2, r2, rfl, hp2, hq2, hr2, hb⟩))
      | (go_at_call 68; (with_reducible refine (impl_CrossOf _ _ _ _ _ _ _).mono ?_); rintro E w' ⟨p, q, r, rfl, ho, hj, hl, hb⟩; obtain ⟨u0, u1, u2, hcs⟩ := (KL.out _ (by with_reducible assumption)).2.1.below hb; have hcs' := hcs.set (v0 := .float .f32 p) (v1 := .float .f32 q) (v2 := .float .f32 r); obtain ⟨f0, f1, f2, z0, z1, z2, zz⟩ := hcs; clear zz))
  refine ‹∀ (a : Act) (w : World), Code.wp _ Code.ret Q' a w → _› _ _ ?_
  obtain ⟨W3, hW3⟩ : ∃ W, W = (((w'.setCell ⟨w.heap.size + 1, 0, none⟩ (.float .f32 p)).setCell ⟨w.heap.size + 1, 1, none⟩ (.float .f32 q)).setCell ⟨w.heap.size + 1, 2, none⟩ (.float .f32 r)) := ⟨_, rfl⟩
  have hfin := (KL.out (((w'.setCell ⟨w.heap.size + 1, 0, none⟩ (.float .f32 p)).setCell ⟨w.heap.size + 1, 1, none⟩ (.float .f32 q)).setCell ⟨w.heap.size + 1, 2, none⟩ (.float .f32 r)) (by with_reducible assumption)).2.2
  rw [← hW3] at hfin hcs' ⊢
  clear f0 f1 f2 z0 z1 z2
  obtain ⟨f0, f1, f2, z0, z1, z2, zz⟩ := hcs'
  rw [hp1.val, hq1.val, hr1.val, hp2.val, hq2.val, hr2.val] at *
  clear hW3 KL K2 S2
  go_wp2_with fail
  ((try simp only [Exit.inBlock, Exit.then]); refine bodyPost_ret (by simp [results, Try.results52, go_sem, f0, f1, f2]; try rfl) rfl ?_)
  exact ⟨⟨p, q, r, rfl, ho, hj, hl⟩, hfin⟩

end Go.Proofs.Ytlendjpmblapkaa
namespace Go.Proofs.Ytlendjpmblapkaa
open Fl Go.RowKit Go.Proofs.YtlendjpmblapkaaW.PrintWords Go.Proofs.Ytlendjpmblapkaa.PMesh Msh
set_option linter.unusedVariables false

set_option maxHeartbeats 4000000 in
theorem spec_l02Normal (g : Nat) (Q : List S46) (T : List (List Int)) (i : Int) (w0 w : World) (hI : VarM w0 w g Q T) (hB : Below w0.heap.size w0 w) (hi0 : 0 ≤ i) (hi1 : i < T.length) (t : List Int) (ht : rd_L3 T i = t) (h3 : t.length = 3)
    (i0 : 0 ≤ rd t 0) (j0 : rd t 0 < Q.length) (i1 : 0 ≤ rd t 1) (j1 : rd t 1 < Q.length) (i2 : 0 ≤ rd t 2) (j2 : rd t 2 < Q.length) :
    Calls Try.prog 50 #[.pointer (some ⟨g, 0, none⟩), .int .i64 i] w fun E w' => RetV (crossV (rd_T46 Q (rd t 0)) (rd_T46 Q (rd t 1)) (rd_T46 Q (rd t 2))) E ∧ Below w.heap.size w w' := by
  obtain ⟨A, c, B, e, hg, _, hQ0, hT0⟩ := hI
  have hQ := Kd.C_below hQ0 hB
  have hT := Kd.C_below hT0 hB
  obtain ⟨ba, C, cc, rfl, tc, _, hC⟩ := at_L3 hT i hi0 hi1
  rw [ht] at tc hC
  have gc0 : w.cell? ⟨g, 0, none⟩ = some (.slice A Q.length c) := (blk_cell hg 0).trans rfl
  have gc1 : w.cell? ⟨g, 1, none⟩ = some (.slice (some ba) T.length e) := (blk_cell hg 1).trans rfl
  clear hg hQ0 hT0 hT hB ht
  obtain ⟨ca, rfl, g0⟩ := Kd.at_int hC 0 (by omega) (by omega)
  obtain ⟨_, e1, g1⟩ := Kd.at_int hC 1 (by omega) (by omega)
  obtain ⟨_, e2, g2⟩ := Kd.at_int hC 2 (by omega) (by omega)
  cases e1; cases e2
  replace g0 : w.cell? ca = some (.int .i64 (rd t 0)) := g0
  replace g1 : w.cell? ⟨ca.block, ca.off + 1, none⟩ = some (.int .i64 (rd t 1)) := g1
  replace g2 : w.cell? ⟨ca.block, ca.off + 2, none⟩ = some (.int .i64 (rd t 2)) := g2
  obtain ⟨pa, rfl, x0, x1, x2⟩ := at_T46 hQ _ i0 j0
  obtain ⟨_, e3, y0, y1, y2⟩ := at_T46 hQ _ i1 j1
  obtain ⟨_, e4, z0, z1, z2⟩ := at_T46 hQ _ i2 j2
  cases e3; cases e4
  generalize rd_T46 Q (rd t 0) = X at *
  generalize rd_T46 Q (rd t 1) = Y at *
  generalize rd_T46 Q (rd t 2) = Z at *
  generalize rd t 0 = t0 at *
  generalize rd t 1 = t1 at *
  generalize rd t 2 = t2 at *
  generalize Q.length = n at *
  rw [h3] at tc
  generalize T.length = m at *
  clear hQ hC h3
  replace hi0 := eq_true hi0; replace hi1 := eq_true hi1; replace i0 := eq_true i0; replace i1 := eq_true i1; replace i2 := eq_true i2; replace j0 := eq_true j0; replace j1 := eq_true j1; replace j2 := eq_true j2
  obtain ⟨W1, hW1⟩ : ∃ W, W = w.alloc (.cells #[.float .f32 0, .float .f32 0, .float .f32 0] 46) := ⟨_, rfl⟩
  have HB1 : Below w.heap.size w W1 := by rw [hW1]; (repeat (first | exact Below.refl _ _ | assumption | (refine Below.drewN ?_ _) | (refine Below.setCell ?_ (by first | (simp; done) | (simp; omega)) _) | (refine Below.drew ?_) | (refine Below.alloc ?_ (by first | (simp; done) | (simp; omega)) _)))
  have b0 := old_cell HB1 gc0
  have b1 := old_cell HB1 gc1
  have b2 := old_cell HB1 tc
  have G0 := (HB1.cell (World.block_lt_of_cell? _ _ g0)).trans g0
  have X0 := (HB1.cell (World.block_lt_of_cell? _ _ x0)).trans x0
  have X1 := (HB1.cell (World.block_lt_of_cell? _ _ x1)).trans x1
  have X2 := (HB1.cell (World.block_lt_of_cell? _ _ x2)).trans x2
  have K1 := Lib.hid (fun (W : World) (hb : Below W1.heap.size W1 W) => keepc5 b0 G0 X0 X1 X2 hb)
  have S1 := keepc5 b0 G0 X0 X1 X2 (Below.refl _ _)
  clear b0 G0 X0 X1 X2 gc1 tc
  rw [hW1] at b1 b2
  go_enter Try.func50, Try.ntmps50
  go_wp2_with fail
  clear b1 b2
  rw [← hW1]
  have HW1 := Lib.hid hW1
  clear hW1
  go_region_held3 (fun W => W.cell? ⟨g, 0, none⟩ = some (.slice (some pa) n c) ∧ W.cell? ca = some (.int .i64 t0) ∧ W.cell? (pa.add (t0.toNat * 3)) = some (.float .f32 X.f0) ∧ W.cell? ⟨(pa.add (t0.toNat * 3)).block, (pa.add (t0.toNat * 3)).off + 1, none⟩ = some (.float .f32 X.f1) ∧ W.cell? ⟨(pa.add (t0.toNat * 3)).block, (pa.add (t0.toNat * 3)).off + 2, none⟩ = some (.float .f32 X.f2) ∧ Below W1.heap.size W1 W)
    (first | with_reducible assumption | (refine K1.out _ ?_; repeat (first | exact Below.refl _ _ | (with_reducible exact lastc5 (by with_reducible assumption)) | (refine Below.drewN ?_ _) | (refine Below.setCell ?_ (by first | (simp; done) | (simp; omega)) _) | (refine Below.drew ?_) | (refine Below.alloc ?_ (by first | (simp; done) | (simp; omega)) _))))
    (first | fail)
  rename_i Q' K' hK' hH
  refine hK' _ _ ?_
  clear hK' K' hH
  obtain ⟨W2, hW2⟩ : ∃ W, W = (W1.alloc (.cells #[.float .f32 X.f0, .float .f32 X.f1, .float .f32 X.f2] 46)).drew := ⟨_, rfl⟩
  have hs1 : W1.heap.size = w.heap.size + 1 := by rw [HW1.out]; simp
  have HB2 : Below w.heap.size w W2 := by rw [hW2]; exact Below.drew (Below.alloc HB1 (by omega) _)
  have HB12 : Below W1.heap.size W1 W2 := by rw [hW2]; exact Below.drew (Below.alloc (Below.refl _ _) (Nat.le_refl _) _)
  have hs2 : W2.heap.size = w.heap.size + 2 := by rw [hW2]; simp [hs1]
  have hc3 : C3E W2 (w.heap.size) := by
    refine C3E.below ?_ HB12
    refine ⟨.float .f32 0, .float .f32 0, .float .f32 0, ?_⟩
    have := Cells3.new w (.float .f32 0) (.float .f32 0) (.float .f32 0) 46
    rw [← HW1.out] at this
    simpa using this
  obtain ⟨x0', x1', x2', xz⟩ : Cells3 W2 W1.heap.size (.float .f32 X.f0) (.float .f32 X.f1) (.float .f32 X.f2) := by rw [hW2]; exact Cells3.drew (Cells3.new W1 _ _ _ _)
  have K2 := Lib.hid (fun (W : World) (hk : Kept W2 W (fun k => k = w.heap.size)) (hc : C3E W (w.heap.size)) (hb : Below w.heap.size w W) =>
    (⟨old_cell hb gc0, old_cell hb g1, old_cell hb g2, old_cell hb y0, old_cell hb y1, old_cell hb y2, old_cell hb z0, old_cell hb z1, old_cell hb z2, kept_cell hk x0' (by show W1.heap.size ≠ _; omega), kept_cell hk x1' (by show W1.heap.size ≠ _; omega), kept_cell hk x2' (by show W1.heap.size ≠ _; omega), hk, hc, hb⟩ : W.cell? ⟨g, 0, none⟩ = some (.slice (some pa) n c) ∧ W.cell? ⟨ca.block, ca.off + 1, none⟩ = some (.int .i64 t1) ∧ W.cell? ⟨ca.block, ca.off + 2, none⟩ = some (.int .i64 t2) ∧ W.cell? (pa.add (t1.toNat * 3)) = some (.float .f32 Y.f0) ∧ W.cell? ⟨(pa.add (t1.toNat * 3)).block, (pa.add (t1.toNat * 3)).off + 1, none⟩ = some (.float .f32 Y.f1) ∧ W.cell? ⟨(pa.add (t1.toNat * 3)).block, (pa.add (t1.toNat * 3)).off + 2, none⟩ = some (.float .f32 Y.f2) ∧ W.cell? (pa.add (t2.toNat * 3)) = some (.float .f32 Z.f0) ∧ W.cell? ⟨(pa.add (t2.toNat * 3)).block, (pa.add (t2.toNat * 3)).off + 1, none⟩ = some (.float .f32 Z.f1) ∧ W.cell? ⟨(pa.add (t2.toNat * 3)).block, (pa.add (t2.toNat * 3)).off + 2, none⟩ = some (.float .f32 Z.f2) ∧ W.cell? ⟨W1.heap.size, 0, none⟩ = some (.float .f32 X.f0) ∧ W.cell? ⟨W1.heap.size, 1, none⟩ = some (.float .f32 X.f1) ∧ W.cell? ⟨W1.heap.size, 2, none⟩ = some (.float .f32 X.f2) ∧ Kept W2 W (fun k => k = w.heap.size) ∧ C3E W (w.heap.size) ∧ Below w.heap.size w W))
  have S2 := K2.out W2 (Kept.refl _ _) hc3 HB2
  have KL := Lib.hid (fun (W : World) (h : W.cell? ⟨g, 0, none⟩ = some (.slice (some pa) n c) ∧ W.cell? ⟨ca.block, ca.off + 1, none⟩ = some (.int .i64 t1) ∧ W.cell? ⟨ca.block, ca.off + 2, none⟩ = some (.int .i64 t2) ∧ W.cell? (pa.add (t1.toNat * 3)) = some (.float .f32 Y.f0) ∧ W.cell? ⟨(pa.add (t1.toNat * 3)).block, (pa.add (t1.toNat * 3)).off + 1, none⟩ = some (.float .f32 Y.f1) ∧ W.cell? ⟨(pa.add (t1.toNat * 3)).block, (pa.add (t1.toNat * 3)).off + 2, none⟩ = some (.float .f32 Y.f2) ∧ W.cell? (pa.add (t2.toNat * 3)) = some (.float .f32 Z.f0) ∧ W.cell? ⟨(pa.add (t2.toNat * 3)).block, (pa.add (t2.toNat * 3)).off + 1, none⟩ = some (.float .f32 Z.f1) ∧ W.cell? ⟨(pa.add (t2.toNat * 3)).block, (pa.add (t2.toNat * 3)).off + 2, none⟩ = some (.float .f32 Z.f2) ∧ W.cell? ⟨W1.heap.size, 0, none⟩ = some (.float .f32 X.f0) ∧ W.cell? ⟨W1.heap.size, 1, none⟩ = some (.float .f32 X.f1) ∧ W.cell? ⟨W1.heap.size, 2, none⟩ = some (.float .f32 X.f2) ∧ Kept W2 W (fun k => k = w.heap.size) ∧ C3E W (w.heap.size) ∧ Below w.heap.size w W) => h.2.2.2.2.2.2.2.2.2.2.2.2)
  rw [← hW2]
  clear xz hW2 gc0 hc3 x0' x1' x2' HB12 S1 K1 HB2 HB1 g0 g1 g2 x0 x1 x2 y0 y1 y2 z0 z1 z2 i0 j0 hs1 hs2
  go_wp2_with fail
  go_region_held3 (fun W => W.cell? ⟨g, 0, none⟩ = some (.slice (some pa) n c) ∧ W.cell? ⟨ca.block, ca.off + 1, none⟩ = some (.int .i64 t1) ∧ W.cell? ⟨ca.block, ca.off + 2, none⟩ = some (.int .i64 t2) ∧ W.cell? (pa.add (t1.toNat * 3)) = some (.float .f32 Y.f0) ∧ W.cell? ⟨(pa.add (t1.toNat * 3)).block, (pa.add (t1.toNat * 3)).off + 1, none⟩ = some (.float .f32 Y.f1) ∧ W.cell? ⟨(pa.add (t1.toNat * 3)).block, (pa.add (t1.toNat * 3)).off + 2, none⟩ = some (.float .f32 Y.f2) ∧ W.cell? (pa.add (t2.toNat * 3)) = some (.float .f32 Z.f0) ∧ W.cell? ⟨(pa.add (t2.toNat * 3)).block, (pa.add (t2.toNat * 3)).off + 1, none⟩ = some (.float .f32 Z.f1) ∧ W.cell? ⟨(pa.add (t2.toNat * 3)).block, (pa.add (t2.toNat * 3)).off + 2, none⟩ = some (.float .f32 Z.f2) ∧ W.cell? ⟨W1.heap.size, 0, none⟩ = some (.float .f32 X.f0) ∧ W.cell? ⟨W1.heap.size, 1, none⟩ = some (.float .f32 X.f1) ∧ W.cell? ⟨W1.heap.size, 2, none⟩ = some (.float .f32 X.f2) ∧ Kept W2 W (fun k => k = w.heap.size) ∧ C3E W (w.heap.size) ∧ Below w.heap.size w W)
    (first
      | (with_reducible assumption)
      | (with_reducible exact K2.out _ (KL.out _ (by with_reducible assumption)).1.drew (KL.out _ (by with_reducible assumption)).2.1.drew (Below.drew (KL.out _ (by with_reducible assumption)).2.2))
      | (with_reducible exact K2.out _ ((KL.out _ (by with_reducible assumption)).1.below (by with_reducible assumption)) ((KL.out _ (by with_reducible assumption)).2.1.below (by with_reducible assumption)) (below_then (KL.out _ (by with_reducible assumption)).2.2 (by with_reducible assumption) (KL.out _ (by with_reducible assumption)).2.2.size))
      | (with_reducible exact K2.out _ ((((KL.out _ (by with_reducible assumption)).1.setCell (.inl rfl) _).setCell (.inl rfl) _).setCell (.inl rfl) _) (KL.out _ (by with_reducible assumption)).2.1.set3 (Below.set3 (KL.out _ (by with_reducible assumption)).2.2 (Nat.le_refl _) _ _ _)))
    (first
      | (go_at_call 67; first
          | ((with_reducible refine (spec_l01Less Y.f0 Y.f1 Y.f2 X.f0 X.f1 X.f2 _).mono ?_); rintro E w' ⟨p1, q1, r1, rfl, hp1, hq1, hr1, hb⟩)
          | ((with_reducible refine (spec_l01Less Z.f0 Z.f1 Z.f2 X.f0 X.f1 X.f2 _).mono ?_); rintro E w' ⟨p2, q2, r2, rfl, hp2, hq2, hr2, hb⟩))
      | (go_at_call 66; (with_reducible refine (spec_l01Cross _ _ _ _ _ _ _).mono ?_); rintro E w' ⟨p, q, r, rfl, ho, hj, hl, hb⟩; obtain ⟨u0, u1, u2, hcs⟩ := (KL.out _ (by with_reducible assumption)).2.1.below hb; have hcs' := hcs.set (v0 := .float .f32 p) (v1 := .float .f32 q) (v2 := .float .f32 r); obtain ⟨f0, f1, f2, z0, z1, z2, zz⟩ := hcs; clear zz))
  refine ‹∀ (a : Act) (w : World), Code.wp _ Code.ret Q' a w → _› _ _ ?_
  obtain ⟨W3, hW3⟩ : ∃ W, W = (((w'.setCell ⟨w.heap.size, 0, none⟩ (.float .f32 p)).setCell ⟨w.heap.size, 1, none⟩ (.float .f32 q)).setCell ⟨w.heap.size, 2, none⟩ (.float .f32 r)) := ⟨_, rfl⟩
  have hfin := (KL.out (((w'.setCell ⟨w.heap.size, 0, none⟩ (.float .f32 p)).setCell ⟨w.heap.size, 1, none⟩ (.float .f32 q)).setCell ⟨w.heap.size, 2, none⟩ (.float .f32 r)) (by with_reducible assumption)).2.2
  rw [← hW3] at hfin hcs' ⊢
  clear f0 f1 f2 z0 z1 z2
  obtain ⟨f0, f1, f2, z0, z1, z2, zz⟩ := hcs'
  rw [hp1.val, hq1.val, hr1.val, hp2.val, hq2.val, hr2.val] at *
  clear hW3 KL K2 S2
  go_wp2_with fail
  ((try simp only [Exit.inBlock, Exit.then]); refine bodyPost_ret (by simp [results, Try.results50, go_sem, f0, f1, f2]; try rfl) rfl ?_)
  exact ⟨⟨p, q, r, rfl, ho, hj, hl⟩, hfin⟩

end Go.Proofs.Ytlendjpmblapkaa
namespace Go.Proofs.Ytlendjpmblapkaa
open Fl Go.RowKit Go.Proofs.YtlendjpmblapkaaW.PrintWords Go.Proofs.Ytlendjpmblapkaa.PMesh Msh
set_option linter.unusedVariables false

theorem in_f2 (n : Nat) (hn : n ≤ 128) (p : Int) : spec_l00In.f p 0 (wrap64 ((n : Int) - 1)) = some (inB n p) := by
  unfold spec_l00In.f inB
  rw [wrap_fit (by omega) (by omega)]
  by_cases h : p ≥ 0
  · rw [if_pos h]; congr 1; rw [decide_eq_decide]; omega
  · rw [if_neg h]; congr 1; symm; rw [decide_eq_false_iff_not]; omega
theorem within_f2 (n : Nat) (hn : n ≤ 128) (p : Int) : impl_within.f p 0 (wrap64 ((n : Int) - 1)) = some (inB n p) := in_f2 n hn p

/-- A triangle of a valid mesh. -/
theorem tri_at {n : Nat} {T : List (List Int)} (hv : validB n T = true) {i : Int} (h0 : 0 ≤ i) (h1 : i < T.length) : ∃ t, rd_L3 T i = t ∧ t.length = 3 ∧ (0 ≤ rd t 0 ∧ rd t 0 < n) ∧ (0 ≤ rd t 1 ∧ rd t 1 < n) ∧ (0 ≤ rd t 2 ∧ rd t 2 < n) := by
  obtain ⟨j, rfl⟩ : ∃ j : Nat, i = (j : Int) := ⟨i.toNat, by omega⟩
  have hj : j < T.length := by omega
  have h := List.all_eq_true.1 (validB_iff.1 hv).2.2 _ (List.getElem_mem hj)
  have h3 := triB_len h
  refine ⟨_, rdL T j hj, h3, ?_⟩
  obtain ⟨a, b, c, e⟩ := tri3 h3
  rw [e] at h ⊢
  simp only [triB, inB, Bool.and_eq_true, decide_eq_true_eq] at h
  rw [rd3_0, rd3_1, rd3_2]
  exact ⟨h.1.1.2, h.1.2, h.2⟩

/-- What NormalOf answers: the values of the vector, and whether it is one. -/
def normR (Q : List S46) (T : List (List Int)) (i : Int) : (Option Nat × Option Nat × Option Nat) × Bool :=
  if (validB Q.length T && inB T.length i) = true then (crossV (rd_T46 Q (rd (rd_L3 T i) 0)) (rd_T46 Q (rd (rd_L3 T i) 1)) (rd_T46 Q (rd (rd_L3 T i) 2)), true)
  else ((val .f32 0, val .f32 0, val .f32 0), false)
/-- What a function with a vector and a bool leaves. -/
def AnsV (w : World) (r : (Option Nat × Option Nat × Option Nat) × Bool) (E : Ending) (w' : World) : Prop := ∃ p q s, E = .returned (.tuple #[.agg #[.float .f32 p, .float .f32 q, .float .f32 s], .bool r.2]) ∧ FR .f32 p r.1.1 ∧ FR .f32 q r.1.2.1 ∧ FR .f32 s r.1.2.2 ∧ Below w.heap.size w w'
theorem FR_zero : FR .f32 0 (val .f32 0) := ⟨by decide, rfl⟩

/-- A variable that holds a vector of noughts. -/
def Box0 (W : World) (g : Nat) : Prop := W.heap[g]? = some (.cells #[.float .f32 0, .float .f32 0, .float .f32 0] 46 (0, 0))
theorem Box0.new (W : World) : Box0 (W.alloc (.cells #[.float .f32 0, .float .f32 0, .float .f32 0] 46)) W.heap.size := heap_alloc_new W _
theorem Box0.below {W W' : World} {g : Nat} (h : Box0 W g) (hb : Below W.heap.size W W') : Box0 W' g := (hb.block g (blk_lt h)).trans h
theorem Box0.keep {W W' : World} {g g' : Nat} (h : Box0 W g) (hk : KeepBut W W' g' none) (hne : g ≠ g') : Box0 W' g := hk.blk h hne (by simp)
theorem Box0.cells {W : World} {g : Nat} (h : Box0 W g) : W.cell? ⟨g, 0, none⟩ = some (.float .f32 0) ∧ W.cell? ⟨g, 1, none⟩ = some (.float .f32 0) ∧ W.cell? ⟨g, 2, none⟩ = some (.float .f32 0) ∧ W.frozen? ⟨g, 0, none⟩ = false ∧ W.frozen? ⟨g, 1, none⟩ = false ∧ W.frozen? ⟨g, 2, none⟩ = false :=
  ⟨(blk_cell h 0).trans rfl, (blk_cell h 1).trans rfl, (blk_cell h 2).trans rfl, blk_frozen h 0, blk_frozen h 1, blk_frozen h 2⟩

set_option maxHeartbeats 1000000 in
theorem spec_NormalOf (A : Option Addr) (c : Nat) (Q : List S46) (B : Option Addr) (e : Nat) (T : List (List Int)) (i : Int) (w : World) (hQ : Kd.C k46 w A Q.length Q) (hT : Kd.C (Kd.slice 2 (Kd.int .i64)) w B T.length T) :
    Calls Try.prog 24 #[.agg #[.slice A Q.length c, .slice B T.length e], .int .i64 i] w (AnsV w (normR Q T i)) := by
  obtain ⟨M, hM⟩ : ∃ M, M = w.alloc (.cells #[.slice A Q.length c, .slice B T.length e] 30) := ⟨_, rfl⟩
  have hms : M.heap.size = w.heap.size + 1 := by rw [hM]; simp
  have HI : Hid (VarM w (M.alloc (.cells #[.float .f32 0, .float .f32 0, .float .f32 0] 46)) w.heap.size Q T) := Lib.hid (by rw [hM]; exact IsS30.alloc (varM_new w A c Q B e T hQ hT).out _)
  have HB0 : Hid (Below w.heap.size w (M.alloc (.cells #[.float .f32 0, .float .f32 0, .float .f32 0] 46))) := Lib.hid (by rw [hM]; exact Below.alloc (Below.alloc (Below.refl w.heap.size w) (Nat.le_refl _) _) (by simp) _)
  have F0 : Hid (Box0 (M.alloc (.cells #[.float .f32 0, .float .f32 0, .float .f32 0] 46)) (w.heap.size + 1)) := Lib.hid (by have := Box0.new M; rwa [hms] at this)
  rw [hM] at HI HB0 F0
  clear hQ hT hms hM
  by_cases hv : validB Q.length T = true
  · have hl : T.length ≤ 128 := (validB_iff.1 hv).2.1
    have HV : Hid (spec_l02Is.f 201 Q T = some true) := Lib.hid (by rw [is_f Q T 201 (by omega), hv])
    by_cases hi : inB T.length i = true
    · have HL : Hid (spec_l00In.f i 0 (wrap64 ((T.length : Int) - 1)) = some true) := Lib.hid (by rw [in_f2 _ hl, hi])
      have hr : normR Q T i = (crossV (rd_T46 Q (rd (rd_L3 T i) 0)) (rd_T46 Q (rd (rd_L3 T i) 1)) (rd_T46 Q (rd (rd_L3 T i) 2)), true) := by unfold normR; rw [if_pos (by rw [hv, hi]; rfl)]
      rw [hr]
      obtain ⟨hi0, hi1⟩ : 0 ≤ i ∧ i < T.length := by simpa [inB] using hi
      obtain ⟨t, ht, h3, ⟨i0, j0⟩, ⟨i1, j1⟩, i2, j2⟩ := tri_at hv hi0 hi1
      have HN := Lib.hid (fun (W : World) (a : VarM w W w.heap.size Q T) (b : Below w.heap.size w W) => spec_l02Normal w.heap.size Q T i w W a b hi0 hi1 t ht h3 i0 j0 i1 j1 i2 j2)
      rw [ht]
      generalize crossV (rd_T46 Q (rd t 0)) (rd_T46 Q (rd t 1)) (rd_T46 Q (rd t 2)) = R at *
      obtain ⟨R0, R1, R2⟩ := R
      clear hr hv hi hi0 hi1 ht h3 i0 j0 i1 j1 i2 j2 hl
      go_enter Try.func24, Try.ntmps24
      go_wp2_with (first
        | (go_at_call 32; refine (spec_l02Is.calls 201 _ Q T true w _ HI.out HB0.out HV.out).mono ?_; rintro E w1 ⟨rfl, hI, hb, hk⟩; have I1 := Lib.hid hI; have B1 := Lib.hid hb; have F1 := Lib.hid (F0.out.keep hk (by omega)); obtain ⟨_, _, _, _, hg, _⟩ := hI; have hc1 := (blk_cell hg 1).trans rfl; clear hb hk hg)
        | (go_at_call 49; refine (spec_l00In.calls _ _ _ true _ HL.out).mono ?_; rintro E w2 ⟨rfl, hd⟩; have I2 := Lib.hid (I1.out.below hd.below); have B2 := Lib.hid (below_then B1.out hd.below B1.out.size); have F2 := Lib.hid (F1.out.below hd.below); clear hd)
        | (go_at_call 50; refine (HN.out _ I2.out B2.out).mono ?_; rintro E w3 ⟨⟨p, q, r, rfl, hp, hq, hr⟩, hb⟩; have B3 := Lib.hid (below_then B2.out hb B2.out.size); obtain ⟨f0, f1, f2, z0, z1, z2⟩ := (F2.out.below hb).cells; clear hb)
        | fail)
      ((try simp only [Exit.inBlock, Exit.then]); refine bodyPost_ret (by simp [results, Try.results24, go_sem, f0, f1, f2, setCell_same_of, World.cell?_setCell_other]; try rfl) rfl ?_)
      exact ⟨p, q, r, rfl, hp, hq, hr, Below.set3 B3.out (by omega) _ _ _⟩
    · have hi' := Bool.eq_false_iff.2 hi
      have HL : Hid (spec_l00In.f i 0 (wrap64 ((T.length : Int) - 1)) = some false) := Lib.hid (by rw [in_f2 _ hl, hi'])
      have hr : normR Q T i = ((val .f32 0, val .f32 0, val .f32 0), false) := by unfold normR; rw [if_neg (by rw [hv, hi']; simp)]
      rw [hr]
      clear hr hv hi hi' hl
      go_enter Try.func24, Try.ntmps24
      go_wp2_with (first
        | (go_at_call 32; refine (spec_l02Is.calls 201 _ Q T true w _ HI.out HB0.out HV.out).mono ?_; rintro E w1 ⟨rfl, hI, hb, hk⟩; have I1 := Lib.hid hI; have B1 := Lib.hid hb; have F1 := Lib.hid (F0.out.keep hk (by omega)); obtain ⟨_, _, _, _, hg, _⟩ := hI; have hc1 := (blk_cell hg 1).trans rfl; clear hb hk hg)
        | (go_at_call 49; refine (spec_l00In.calls _ _ _ false _ HL.out).mono ?_; rintro E w2 ⟨rfl, hd⟩; have I2 := Lib.hid (I1.out.below hd.below); have B2 := Lib.hid (below_then B1.out hd.below B1.out.size); have F2 := Lib.hid (F1.out.below hd.below); obtain ⟨f0, f1, f2, z0, z1, z2⟩ := F2.out.cells; clear hd)
        | fail)
      ((try simp only [Exit.inBlock, Exit.then]); refine bodyPost_ret (by simp [results, Try.results24, go_sem, f0, f1, f2, setCell_same_of, World.cell?_setCell_other]; try rfl) rfl ?_)
      exact ⟨0, 0, 0, rfl, FR_zero, FR_zero, FR_zero, Below.set3 B2.out (by omega) _ _ _⟩
  · have hv' := Bool.eq_false_iff.2 hv
    have HV : Hid (spec_l02Is.f 201 Q T = some false) := Lib.hid (by rw [is_f Q T 201 (by omega), hv'])
    have hr : normR Q T i = ((val .f32 0, val .f32 0, val .f32 0), false) := by unfold normR; rw [if_neg (by rw [hv']; simp)]
    rw [hr]
    clear hr hv hv'
    go_enter Try.func24, Try.ntmps24
    go_wp2_with (first
      | (go_at_call 32; refine (spec_l02Is.calls 201 _ Q T false w _ HI.out HB0.out HV.out).mono ?_; rintro E w1 ⟨rfl, hI, hb, hk⟩; have I1 := Lib.hid hI; have B1 := Lib.hid hb; have F1 := Lib.hid (F0.out.keep hk (by omega)); obtain ⟨_, _, _, _, hg, _⟩ := hI; obtain ⟨f0, f1, f2, z0, z1, z2⟩ := F1.out.cells; clear hb hk hg)
      | fail)
    ((try simp only [Exit.inBlock, Exit.then]); refine bodyPost_ret (by simp [results, Try.results24, go_sem, f0, f1, f2, setCell_same_of, World.cell?_setCell_other]; try rfl) rfl ?_)
    exact ⟨0, 0, 0, rfl, FR_zero, FR_zero, FR_zero, Below.set3 B1.out (by omega) _ _ _⟩

theorem isTri_f (Q : List S46) (T : List (List Int)) (i : Int) : ∃ k, impl_isTriangleOf.f k Q T i = some (validB Q.length T && inB T.length i) := by
  refine ⟨2097156, ?_⟩
  unfold impl_isTriangleOf.f
  rw [valid_f _ _ _ (by omega)]
  simp only [Option.bind_some]
  by_cases h : validB Q.length T = true
  · rw [if_pos h, within_f2 _ (validB_iff.1 h).2.1, h]; rfl
  · rw [if_neg h, Bool.eq_false_iff.2 h]; rfl

set_option maxHeartbeats 1000000 in
theorem impl_NormalOf (A : Option Addr) (c : Nat) (Q : List S46) (B : Option Addr) (e : Nat) (T : List (List Int)) (i : Int) (w : World) (hQ : Kd.C k46 w A Q.length Q) (hq : Q.length ≤ c) (hT : Kd.C (Kd.slice 2 (Kd.int .i64)) w B T.length T) (hqt : T.length ≤ e) :
    Calls Try.prog 25 #[.agg #[.slice A Q.length c, .slice B T.length e], .int .i64 i] w (AnsV w (normR Q T i)) := by
  obtain ⟨k, hk⟩ := isTri_f Q T i
  obtain ⟨M, hM⟩ : ∃ M, M = w.alloc (.cells #[.slice A Q.length c, .slice B T.length e] 30) := ⟨_, rfl⟩
  obtain ⟨W0, hW0⟩ : ∃ W0, W0 = M.alloc (.cells #[.float .f32 0, .float .f32 0, .float .f32 0] 46) := ⟨_, rfl⟩
  have hms : M.heap.size = w.heap.size + 1 := by rw [hM]; simp
  have hbM : Below w.heap.size w M := by rw [hM]; exact Below.alloc (Below.refl w.heap.size w) (Nat.le_refl _) _
  have hb0 : Below w.heap.size w W0 := by rw [hW0]; exact Below.alloc hbM (by omega) _
  have hbx : BoxAt W0 w.heap.size 30 (.slice A Q.length c) (.slice B T.length e) := by
    have := BoxAt.new w 30 (.slice A Q.length c) (.slice B T.length e)
    rw [← hM] at this
    rw [hW0]
    exact this.below (below_alloc (Below.refl _ _) _)
  have hf0 : Box0 W0 (w.heap.size + 1) := by have := Box0.new M; rwa [hms, ← hW0] at this
  have HX0 := Lib.hid hbx
  have HB0 := Lib.hid hb0
  have F0 := Lib.hid hf0
  have hc0 := hbx.c0
  have hc1 := hbx.c1
  have HT := Lib.hid (fun (W : World) (h : Below w.heap.size w W) => impl_isTriangleOf.calls k A c Q B e T i _ W (Kd.C_below hQ h) hq (Kd.C_below hT h) hqt hk)
  rw [hW0, hM] at hc0 hc1 HX0 HB0 F0
  by_cases hvi : (validB Q.length T && inB T.length i) = true
  · have hv : validB Q.length T = true := (Bool.and_eq_true_iff.1 hvi).1
    have hi : inB T.length i = true := (Bool.and_eq_true_iff.1 hvi).2
    have hr : normR Q T i = (crossV (rd_T46 Q (rd (rd_L3 T i) 0)) (rd_T46 Q (rd (rd_L3 T i) 1)) (rd_T46 Q (rd (rd_L3 T i) 2)), true) := by unfold normR; rw [if_pos hvi]
    rw [hr]
    obtain ⟨hi0, hi1⟩ : 0 ≤ i ∧ i < T.length := by simpa [inB] using hi
    obtain ⟨t, ht, h3, ⟨i0, j0⟩, ⟨i1, j1⟩, i2, j2⟩ := tri_at hv hi0 hi1
    obtain ⟨ba, C, cc, rfl, tc, hcc, hC⟩ := at_L3 hT i hi0 hi1
    rw [ht] at tc hC
    have HN := Lib.hid (fun (W : World) (h : Below w.heap.size w W) => impl_normalOf A c Q (.slice (some ba) T.length e) C cc t W (Kd.C_below hQ h) (Kd.C_below hC h) h3 i0 j0 i1 j1 i2 j2)
    rw [ht]
    rw [hvi] at HT
    generalize crossV (rd_T46 Q (rd t 0)) (rd_T46 Q (rd t 1)) (rd_T46 Q (rd t 2)) = R at *
    obtain ⟨R0, R1, R2⟩ := R
    clear hr hv hi hvi ht h3 i0 j0 i1 j1 i2 j2 hQ hT hk hms hbM hbx hf0 hb0 hC hcc hW0 hM hq hqt
    replace hi0 := eq_true hi0
    replace hi1 := eq_true hi1
    generalize T.length = m at *
    generalize t.length = tl at *
    generalize Q.length = n at *
    go_enter Try.func25, Try.ntmps25
    go_wp2_with (first
      | (go_at_call 51; refine (HT.out _ HB0.out).mono ?_; rintro E w1 ⟨rfl, hb⟩; have X1 := Lib.hid (HX0.out.below hb); have B1 := Lib.hid (below_then HB0.out hb HB0.out.size); have F1 := Lib.hid (F0.out.below hb); clear hb hc0 hc1)
      | fail)
    have hc3 : C3E w1 (w.heap.size + 1) := by obtain ⟨f0, f1, f2, z0, z1, z2⟩ := F1.out.cells; exact ⟨_, _, _, f0, f1, f2, z0, z1, z2, blk_lt F1.out⟩
    have K2 := Lib.hid (fun (W : World) (hk : Kept w1 W (fun k => k = w.heap.size + 1)) (hc : C3E W (w.heap.size + 1)) (hb : Below w.heap.size w W) =>
      (⟨kept_cell hk X1.out.c0 (by show w.heap.size ≠ _; omega), kept_cell hk X1.out.c1 (by show w.heap.size ≠ _; omega), old_cell hb tc, hk, hc, hb⟩ : W.cell? ⟨w.heap.size, 0, none⟩ = some (.slice A n c) ∧ W.cell? ⟨w.heap.size, 1, none⟩ = some (.slice (some ba) m e) ∧ W.cell? (ba.add i.toNat) = some (.slice C tl cc) ∧ Kept w1 W (fun k => k = w.heap.size + 1) ∧ C3E W (w.heap.size + 1) ∧ Below w.heap.size w W))
    have S2 := K2.out w1 (Kept.refl _ _) hc3 B1.out
    have KL := Lib.hid (fun (W : World) (h : W.cell? ⟨w.heap.size, 0, none⟩ = some (.slice A n c) ∧ W.cell? ⟨w.heap.size, 1, none⟩ = some (.slice (some ba) m e) ∧ W.cell? (ba.add i.toNat) = some (.slice C tl cc) ∧ Kept w1 W (fun k => k = w.heap.size + 1) ∧ C3E W (w.heap.size + 1) ∧ Below w.heap.size w W) => h.2.2.2)
    clear X1 F1 HX0 HB0 F0 HT hc3 tc
    go_region_held3 (fun W => W.cell? ⟨w.heap.size, 0, none⟩ = some (.slice A n c) ∧ W.cell? ⟨w.heap.size, 1, none⟩ = some (.slice (some ba) m e) ∧ W.cell? (ba.add i.toNat) = some (.slice C tl cc) ∧ Kept w1 W (fun k => k = w.heap.size + 1) ∧ C3E W (w.heap.size + 1) ∧ Below w.heap.size w W)
      (first
        | (with_reducible assumption)
        | (with_reducible exact K2.out _ (KL.out _ (by with_reducible assumption)).1.drew (KL.out _ (by with_reducible assumption)).2.1.drew (Below.drew (KL.out _ (by with_reducible assumption)).2.2))
        | (with_reducible exact K2.out _ ((KL.out _ (by with_reducible assumption)).1.below (by with_reducible assumption)) ((KL.out _ (by with_reducible assumption)).2.1.below (by with_reducible assumption)) (below_then (KL.out _ (by with_reducible assumption)).2.2 (by with_reducible assumption) (KL.out _ (by with_reducible assumption)).2.2.size))
        | (with_reducible exact K2.out _ ((((KL.out _ (by with_reducible assumption)).1.setCell (.inl rfl) _).setCell (.inl rfl) _).setCell (.inl rfl) _) (KL.out _ (by with_reducible assumption)).2.1.set3 (Below.set3 (KL.out _ (by with_reducible assumption)).2.2 (Nat.le_succ _) _ _ _)))
      (first
        | (go_at_call 52; (with_reducible refine (HN.out _ (KL.out _ (by with_reducible assumption)).2.2).mono ?_); rintro E w' ⟨⟨p, q, r, rfl, ho, hj, hl⟩, hb⟩; obtain ⟨u0, u1, u2, hcs⟩ := (KL.out _ (by with_reducible assumption)).2.1.below hb; have hcs' := hcs.set (v0 := .float .f32 p) (v1 := .float .f32 q) (v2 := .float .f32 r); obtain ⟨f0, f1, f2, z0, z1, z2, zz⟩ := hcs; clear zz))
    rename_i hH
    refine ‹∀ (a : Act) (w_1 : World), Code.wp _ Code.ret _ a w_1 → _› _ _ ?_
    obtain ⟨W3, hW3⟩ : ∃ W, W = (((w'.setCell ⟨w.heap.size + 1, 0, none⟩ (.float .f32 p)).setCell ⟨w.heap.size + 1, 1, none⟩ (.float .f32 q)).setCell ⟨w.heap.size + 1, 2, none⟩ (.float .f32 r)) := ⟨_, rfl⟩
    have hfin := (KL.out _ hH).2.2
    rw [← hW3] at hfin hcs' ⊢
    clear f0 f1 f2 z0 z1 z2
    obtain ⟨f0, f1, f2, z0, z1, z2, zz⟩ := hcs'
    clear hW3 KL K2 S2 hH
    go_wp2_with fail
    ((try simp only [Exit.inBlock, Exit.then]); refine bodyPost_ret (by simp [results, Try.results25, go_sem, f0, f1, f2]; try rfl) rfl ?_)
    exact ⟨p, q, r, rfl, ho, hj, hl, hfin⟩
  · have hvi' := Bool.eq_false_iff.2 hvi
    have hr : normR Q T i = ((val .f32 0, val .f32 0, val .f32 0), false) := by unfold normR; rw [if_neg (by rw [hvi']; simp)]
    rw [hr]
    rw [hvi'] at HT
    clear hr hvi hvi' hQ hT hk hms hbM hbx hf0 hb0 hW0 hM hq hqt
    go_enter Try.func25, Try.ntmps25
    go_wp2_with (first
      | (go_at_call 51; refine (HT.out _ HB0.out).mono ?_; rintro E w1 ⟨rfl, hb⟩; have B1 := Lib.hid (below_then HB0.out hb HB0.out.size); obtain ⟨f0, f1, f2, z0, z1, z2⟩ := (F0.out.below hb).cells; clear hb hc0 hc1)
      | fail)
    ((try simp only [Exit.inBlock, Exit.then]); refine bodyPost_ret (by simp [results, Try.results25, go_sem, f0, f1, f2, setCell_same_of, World.cell?_setCell_other]; try rfl) rfl ?_)
    exact ⟨0, 0, 0, rfl, FR_zero, FR_zero, FR_zero, Below.set3 B1.out (by omega) _ _ _⟩

end Go.Proofs.Ytlendjpmblapkaa
namespace Go.Proofs.Ytlendjpmblapkaa.Fl
open Ieee
set_option linter.unusedVariables false

/-- The value of a finite word, in units of the least place. -/
def iv (f : Format) (b : Nat) : Int := sg (sgn f b) (mg f (rung f b))

/-- A word next to the exact value v / 2^B (in units). -/
structure Near (f : Format) (r : Nat) (v : Int) (B : Nat) : Prop where
  ex : ∃ r0 L, rung f r = min r0 f.infRung ∧ (∀ s, mg f s * 2 ^ B ≤ v.natAbs → s ≤ r0) ∧ (∀ s, v.natAbs ≤ mg f s * 2 ^ B → r0 ≤ s) ∧
    (L = 0 ∨ 2 ^ (f.fractionBits + L) * 2 ^ B ≤ v.natAbs) ∧ 2 * v.natAbs ≤ 2 * (mg f r0 * 2 ^ B) + 2 ^ L * 2 ^ B ∧ 2 * (mg f r0 * 2 ^ B) ≤ 2 * v.natAbs + 2 ^ L * 2 ^ B
  sign : v ≠ 0 → sgn f r = decide (v < 0)

theorem Near.le {f : Format} {r : Nat} {v : Int} {B : Nat} (h : Near f r v B) {s : Nat} (hs : v.natAbs ≤ mg f s * 2 ^ B) : rung f r ≤ s := by
  obtain ⟨r0, L, hr, _, h2, _⟩ := h.ex
  have := h2 s hs
  omega

theorem Near.ge {f : Format} {r : Nat} {v : Int} {B : Nat} (h : Near f r v B) {s : Nat} (hsi : s ≤ f.infRung) (hs : mg f s * 2 ^ B ≤ v.natAbs) : s ≤ rung f r := by
  obtain ⟨r0, L, hr, h1, _, _⟩ := h.ex
  have := h1 s hs
  omega

theorem Near.eq {f : Format} {r : Nat} {v : Int} {B : Nat} (h : Near f r v B) {s : Nat} (hsi : s ≤ f.infRung) (hs : mg f s * 2 ^ B = v.natAbs) : rung f r = s := by
  have a := h.le (s := s) (by omega)
  have b := h.ge hsi (by omega)
  omega

/-- What 'nearest' gives, as a word next to the value. -/
theorem near_nearest (f : Format) (neg : Bool) (mag : Nat) (p : Int) (A B : Nat) (hp : p + B = f.leastPlace + A) (v : Int) (hv : v.natAbs = mag * 2 ^ A) (hs : v ≠ 0 → neg = decide (v < 0)) :
    Near f (f.nearest neg mag p) v B := by
  obtain ⟨r0, L, hne, h1, h2, h3, h4, h5⟩ := nearest_spec f neg mag p A B hp
  refine ⟨⟨r0, L, ?_, ?_, ?_, ?_, ?_, ?_⟩, ?_⟩
  · rw [hne]; exact rung_word f neg (Nat.min_le_right _ _)
  · rw [hv]; exact h1
  · rw [hv]; exact h2
  · rw [hv]; exact h3
  · rw [hv]; exact h4
  · rw [hv]; exact h5
  · intro h; rw [hne, sgn_word f neg (Nat.min_le_right _ _)]; exact hs h

theorem sg_natAbs (s : Bool) (m : Nat) : (sg s m).natAbs = m := by unfold sg; cases s <;> simp

theorem sg_sign (s : Bool) (M : Nat) : sg s M ≠ 0 → s = decide (sg s M < 0) := by
  unfold sg
  cases s
  · intro _; simp
  · intro h; simp at h ⊢; omega

theorem opposite_fin {f : Format} {b : Nat} {m : Nat} {p : Int} (h : f.read b = .number (sgn f b) m p) : (f.read b).opposite = .number (!sgn f b) m p := by rw [h]; rfl

theorem sum_num (f : Format) (s t : Bool) (m n a b : Nat) : (Datum.number s m (f.leastPlace + a)).sum (.number t n (f.leastPlace + b)) =
    some (.number (if signed s m (a - min a b) + signed t n (b - min a b) = 0 then s && t else decide (signed s m (a - min a b) + signed t n (b - min a b) < 0)) (signed s m (a - min a b) + signed t n (b - min a b)).natAbs (f.leastPlace + (min a b : Nat))) := by
  simp only [Datum.sum]
  have e0 : min (f.leastPlace + (a : Int)) (f.leastPlace + (b : Int)) = f.leastPlace + (min a b : Nat) := by omega
  rw [e0]
  have e1 : (f.leastPlace + (a : Int) - (f.leastPlace + (min a b : Nat))).toNat = a - min a b := by omega
  have e2 : (f.leastPlace + (b : Int) - (f.leastPlace + (min a b : Nat))).toNat = b - min a b := by omega
  rw [e1, e2]

/-- The sum of two finite words of signs s, t and magnitudes x, y. -/
theorem near_sum (f : Format) (s t : Bool) (m n a b : Nat) (v : Int) (hv : v = sg s (m * 2 ^ a) + sg t (n * 2 ^ b)) :
    ∃ d, (Datum.number s m (f.leastPlace + a)).sum (.number t n (f.leastPlace + b)) = some d ∧ Near f (f.write d) v 0 := by
  refine ⟨_, sum_num f s t m n a b, ?_⟩
  have hsc : signed s m (a - min a b) + signed t n (b - min a b) = sg s (m * 2 ^ (a - min a b)) + sg t (n * 2 ^ (b - min a b)) := by rw [signed_sg, signed_sg]
  have hmul : (signed s m (a - min a b) + signed t n (b - min a b)) * ((2 ^ min a b : Nat) : Int) = v := by
    rw [hsc, Int.add_mul, ← sg_mul, ← sg_mul, Nat.mul_assoc, Nat.mul_assoc, ← Nat.pow_add, ← Nat.pow_add, show a - min a b + min a b = a by omega, show b - min a b + min a b = b by omega, hv]
  have hpos : (0 : Int) < ((2 ^ min a b : Nat) : Int) := by exact_mod_cast Nat.two_pow_pos _
  generalize signed s m (a - min a b) + signed t n (b - min a b) = T at *
  show Near f (f.nearest _ _ _) v 0
  refine near_nearest f _ _ _ (min a b) 0 (by omega) v ?_ ?_
  · rw [← hmul, Int.natAbs_mul]; rfl
  · intro hv0
    have hT : T ≠ 0 := by
      intro h; rw [h, Int.zero_mul] at hmul; exact hv0 hmul.symm
    rw [if_neg hT, decide_eq_decide]
    constructor
    · intro h
      have := Int.mul_neg_of_neg_of_pos h hpos
      omega
    · intro h
      refine Int.not_le.1 fun h' => ?_
      have := Int.mul_nonneg h' (Int.le_of_lt hpos)
      omega

theorem near_add (k : FloatKind) {x y : Nat} (hx : rung k.format x < k.format.infRung) (hy : rung k.format y < k.format.infRung) :
    ∃ r, bin .add k (some x) (some y) = some r ∧ Near k.format r (iv k.format x + iv k.format y) 0 := by
  obtain ⟨m, a, e1, e1'⟩ := read_fin k.format hx
  obtain ⟨n, b, e2, e2'⟩ := read_fin k.format hy
  obtain ⟨d, hd, hn⟩ := near_sum k.format (sgn k.format x) (sgn k.format y) m n a b (iv k.format x + iv k.format y) (by unfold iv; rw [e1', e2'])
  refine ⟨k.format.write d, ?_, hn⟩
  show (((k.format.read x).sum (k.format.read y)).map k.format.write) = _
  rw [e1, e2, hd]; rfl

theorem near_sub (k : FloatKind) {x y : Nat} (hx : rung k.format x < k.format.infRung) (hy : rung k.format y < k.format.infRung) :
    ∃ r, bin .sub k (some x) (some y) = some r ∧ Near k.format r (iv k.format x - iv k.format y) 0 := by
  obtain ⟨m, a, e1, e1'⟩ := read_fin k.format hx
  obtain ⟨n, b, e2, e2'⟩ := read_fin k.format hy
  obtain ⟨d, hd, hn⟩ := near_sum k.format (sgn k.format x) (!sgn k.format y) m n a b (iv k.format x - iv k.format y) (by
    unfold iv; rw [e1', e2']
    have : sg (!sgn k.format y) (mg k.format (rung k.format y)) = - sg (sgn k.format y) (mg k.format (rung k.format y)) := by unfold sg; cases sgn k.format y <;> simp
    rw [this]; omega)
  refine ⟨k.format.write d, ?_, hn⟩
  show (((k.format.read x).sum (k.format.read y).opposite).map k.format.write) = _
  rw [e1, opposite_fin e2, hd]; rfl

/-- How far the least place lies below one. -/
@[irreducible] def under (f : Format) : Nat := (-f.leastPlace).toNat

theorem under_eq (k : FloatKind) : k.format.leastPlace = -(under k.format : Int) := by cases k <;> decide +kernel

theorem under_double : under double = 1074 := by decide +kernel

theorem near_mul (k : FloatKind) {x y : Nat} (hx : rung k.format x < k.format.infRung) (hy : rung k.format y < k.format.infRung) :
    ∃ r, bin .mul k (some x) (some y) = some r ∧ Near k.format r (iv k.format x * iv k.format y) (under k.format) := by
  obtain ⟨m, a, e1, e1'⟩ := read_fin k.format hx
  obtain ⟨n, b, e2, e2'⟩ := read_fin k.format hy
  have hl := under_eq k
  refine ⟨k.format.nearest (sgn k.format x ^^ sgn k.format y) (m * n) (k.format.leastPlace + a + (k.format.leastPlace + b)), ?_, ?_⟩
  · show (((k.format.read x).product (k.format.read y)).map k.format.write) = _
    rw [e1, e2]; rfl
  · refine near_nearest _ _ _ _ (a + b) _ (by omega) _ ?_ ?_
    · rw [Int.natAbs_mul]
      unfold iv
      rw [sg_natAbs, sg_natAbs, ← e1', ← e2', Nat.pow_add]
      simp only [Nat.mul_assoc, Nat.mul_left_comm]
    · intro h
      unfold iv sg at h ⊢
      generalize mg k.format (rung k.format x) = X at *
      generalize mg k.format (rung k.format y) = Y at *
      have hX : X ≠ 0 := by intro h0; apply h; rw [h0]; cases sgn k.format x <;> simp
      have hY : Y ≠ 0 := by intro h0; apply h; rw [h0]; cases sgn k.format y <;> simp
      have hpos : (0 : Int) < (X : Int) * (Y : Int) := Int.mul_pos (by omega) (by omega)
      cases sgn k.format x <;> cases sgn k.format y <;> simp [Int.neg_mul, Int.mul_neg] <;> omega

/-- A quotient: its rung is at most s where twice the exact one is at most s's magnitude. -/
theorem quo_le (k : FloatKind) {x y : Nat} (hx : rung k.format x < k.format.infRung) (hy : rung k.format y < k.format.infRung) (hy0 : 0 < rung k.format y) :
    ∃ r, bin .quo k (some x) (some y) = some r ∧ ∀ s, 2 * mg k.format (rung k.format x) * 2 ^ under k.format ≤ mg k.format s * mg k.format (rung k.format y) → rung k.format r ≤ s := by
  obtain ⟨m, a, e1, e1'⟩ := read_fin k.format hx
  obtain ⟨n, b, e2, e2'⟩ := read_fin k.format hy
  have hU := under_eq k
  have hn : n ≠ 0 := by
    intro h; rw [h, Nat.zero_mul] at e2'; have := mg_pos k.format hy0; omega
  let more := k.format.fractionBits + 2 + n.log2 - m.log2
  let D := m <<< more
  refine ⟨k.format.nearest (sgn k.format x ^^ sgn k.format y) (2 * (D / n) + (D % n != 0).toNat) (k.format.leastPlace + a - (k.format.leastPlace + b) - more - 1), ?_, ?_⟩
  · show (((k.format.read x).quotient (k.format.fractionBits + 2) (k.format.read y)).map k.format.write) = _
    rw [e1, e2]
    simp only [Datum.quotient]
    rw [if_neg hn]; rfl
  · intro s hs
    have hnear := near_nearest k.format (sgn k.format x ^^ sgn k.format y) (2 * (D / n) + (D % n != 0).toNat) (k.format.leastPlace + a - (k.format.leastPlace + b) - more - 1) (a + under k.format) (b + more + 1) (by omega) (sg (sgn k.format x ^^ sgn k.format y) ((2 * (D / n) + (D % n != 0).toNat) * 2 ^ (a + under k.format))) (sg_natAbs _ _) (sg_sign _ _)
    refine hnear.le ?_
    rw [sg_natAbs]
    have hDe : D = m * 2 ^ more := Nat.shiftLeft_eq _ _
    have hmag : (2 * (D / n) + (D % n != 0).toNat) * n ≤ 4 * D := by
      have hdm := Nat.div_add_mod D n
      have hc : (D % n != 0).toNat ≤ 1 := Bool.toNat_le _
      by_cases hm : m = 0
      · have hD0 : D = 0 := by rw [hDe, hm, Nat.zero_mul]
        rw [hD0]; simp
      · have hnD : n ≤ D := by
          have h1 : n < 2 ^ (n.log2 + 1) := Nat.lt_log2_self
          have h2 : 2 ^ m.log2 ≤ m := Nat.log2_self_le hm
          have h3 : 2 ^ m.log2 * 2 ^ more ≤ m * 2 ^ more := Nat.mul_le_mul_right _ h2
          rw [← Nat.pow_add] at h3
          have h4 : 2 ^ (n.log2 + 1) ≤ 2 ^ (m.log2 + more) := Nat.pow_le_pow_right (by omega) (by show n.log2 + 1 ≤ m.log2 + (k.format.fractionBits + 2 + n.log2 - m.log2); omega)
          rw [hDe]; omega
        have h5 : (2 * (D / n) + (D % n != 0).toNat) * n = 2 * (n * (D / n)) + (D % n != 0).toNat * n := by
          rw [Nat.add_mul, Nat.mul_assoc, Nat.mul_comm (D / n) n]
        have h6 : (D % n != 0).toNat * n ≤ 1 * n := Nat.mul_le_mul_right _ hc
        omega
    have hnpos : 0 < n := by omega
    refine mul_le_cancel hnpos ?_
    have h1 : (2 * (D / n) + (D % n != 0).toNat) * 2 ^ (a + under k.format) * n ≤ 4 * (m * 2 ^ more) * 2 ^ (a + under k.format) := by
      rw [Nat.mul_right_comm, ← hDe]; exact Nat.mul_le_mul_right _ hmag
    have h2 : 4 * (m * 2 ^ more) * 2 ^ (a + under k.format) = 2 * (2 * (m * 2 ^ a) * 2 ^ under k.format) * 2 ^ more := by
      rw [Nat.pow_add, show (4 : Nat) = 2 * 2 from rfl]; ac_rfl
    have h3 : 2 * (2 * (m * 2 ^ a) * 2 ^ under k.format) * 2 ^ more ≤ 2 * (mg k.format s * (n * 2 ^ b)) * 2 ^ more := by
      refine Nat.mul_le_mul_right _ (Nat.mul_le_mul_left _ ?_)
      rw [e1', e2']; exact hs
    have h4 : 2 * (mg k.format s * (n * 2 ^ b)) * 2 ^ more = mg k.format s * 2 ^ (b + more + 1) * n := by
      rw [Nat.pow_succ, Nat.pow_add]; ac_rfl
    omega

/-! ### The square root -/

theorem rootFrom_sq (n : Nat) : ∀ (todo root : Nat), root * root ≤ n → Datum.rootFrom n todo root * Datum.rootFrom n todo root ≤ n := by
  intro todo
  induction todo with
  | zero => intro root h; exact h
  | succ todo ih =>
    intro root h
    unfold Datum.rootFrom
    dsimp only
    split
    · rename_i h'; exact ih _ h'
    · exact ih _ h

/-- The root of a value. -/
def sqrtV (X : Option Nat) : Option Nat := X.bind double.sqrt

theorem sqrt_nn {x r : Nat} (h : double.sqrt x = some r) : val .f64 r = some r := by
  unfold Format.sqrt at h
  refine map_write_val .f64 (o := (double.read x).root (double.fractionBits + 2)) ?_ h
  intro d hd
  cases hr : double.read x <;> rw [hr] at hd <;> simp only [Datum.root] at hd
  · split at hd
    · cases hd; rfl
    · split at hd
      · cases hd
      · cases hd; rfl
  · split at hd
    · cases hd
    · cases hd; rfl
  · cases hd

theorem sqrt_nan {x : Nat} (h : val .f64 x = none) : double.sqrt x = none := by
  obtain ⟨s, t, hr⟩ := nan_of_val h
  have hr' : double.read x = .nan s t := hr
  unfold Format.sqrt
  rw [hr']; rfl

theorem run_sqrt {P : Program} (x : Nat) (w : World) : ∃ r n, (Extern.MathSqrt.sqrt #[.float .f64 x]).run P w = .ok (.float .f64 r) (w.drewN n) ∧ FR .f64 r (sqrtV (Fl.val .f64 x)) := by
  have hb : sqrtV (Fl.val .f64 x) = double.sqrt x := by
    rcases val_cases .f64 x with h | h
    · rw [h]; rfl
    · rw [h, sqrt_nan h]; rfl
  cases h : double.sqrt x with
  | some r =>
    refine ⟨r, 0, ?_, double.sqrt_lt h, ?_⟩
    · have h' : FloatKind.f64.format.sqrt x = some r := h
      have e : Extern.MathSqrt.sqrt #[.float .f64 x] = (match FloatKind.f64.format.sqrt x with | some r => pure (.float .f64 r) | none => do pure (.float .f64 (← choose (.nanBits .f64 x x)))) := rfl
      rw [e, h']; rfl
    · rw [hb, h]; exact sqrt_nn h
  | none =>
    have hn := nan_cut .f64 (.nanBits .f64 x x) (w.tape w.drawn (.nanBits .f64 x x)) (.inl ⟨x, x, rfl⟩)
    refine ⟨_, 1, ?_, hn.1, by rw [hb, h]; exact hn.2⟩
    have h' : FloatKind.f64.format.sqrt x = none := h
    have e : Extern.MathSqrt.sqrt #[.float .f64 x] = (match FloatKind.f64.format.sqrt x with | some r => pure (.float .f64 r) | none => do pure (.float .f64 (← choose (.nanBits .f64 x x)))) := rfl
    rw [e, h']
    simp [choose, Sem.run, Question.forced]; rfl

theorem pw1 (m u A : Nat) : 16 * (m * 2 ^ u) * (2 ^ A * 2 ^ A) = m * 2 ^ (4 + u + A + A) := by
  rw [Nat.pow_add, Nat.pow_add, Nat.pow_add, show (2 : Nat) ^ 4 = 16 from rfl]; ac_rfl

theorem pw2 (m a U B : Nat) : 4 * (m * 2 ^ a) * 2 ^ U * (2 ^ B * 2 ^ B) = m * 2 ^ (2 + a + U + B + B) := by
  rw [Nat.pow_add, Nat.pow_add, Nat.pow_add, Nat.pow_add, show (2 : Nat) ^ 2 = 4 from rfl]; ac_rfl

/-- A root: at most s where four times what is under it is at most the square of s's magnitude. -/
theorem root_le (U : Nat) (hL : double.leastPlace = -(U : Int)) {x : Nat} (hx : rung double x < double.infRung) {r : Nat} (hr : double.sqrt x = some r) :
    ∀ s, 4 * mg double (rung double x) * 2 ^ U ≤ mg double s * mg double s → rung double r ≤ s := by
  intro s hs
  obtain ⟨m, a, e1, e1'⟩ := read_fin double hx
  unfold Format.sqrt at hr
  rw [e1] at hr
  simp only [Datum.root] at hr
  by_cases hm : m = 0
  · rw [if_pos hm] at hr
    subst hm
    have : r = double.word (sgn double x) 0 := by
      have := Option.some.inj hr
      rw [← this]
      show double.nearest _ 0 _ = _
      unfold Format.nearest; rw [if_pos rfl]
    rw [this, rung_word double _ (Nat.zero_le _)]
    exact Nat.zero_le _
  · rw [if_neg hm] at hr
    by_cases hsn : sgn double x = true
    · rw [if_pos hsn] at hr; cases hr
    · rw [if_neg hsn] at hr
      let more0 := 2 * (double.fractionBits + 2) - m.log2
      let i : Int := double.leastPlace + a
      let more := more0 + ((i - more0) % 2).toNat
      let n := m <<< more
      let whole := Datum.rootFrom n (n.log2 / 2 + 1) 0
      have hr' : double.nearest false (2 * whole + (whole * whole != n).toNat) ((i - more) / 2 - 1) = r := Option.some.inj hr
      obtain ⟨h, hh⟩ : ∃ h : Int, i - more = 2 * h := ⟨(i - more) / 2, by
        have e : ((more : Nat) : Int) = (more0 : Int) + (i - more0) % 2 := by
          show (((more0 + ((i - more0) % 2).toNat : Nat)) : Int) = _
          omega
        rw [e]; omega⟩
      have hp : (i - more) / 2 - 1 = h - 1 := by rw [hh]; omega
      rw [hp] at hr'
      have hsq : whole * whole ≤ n := rootFrom_sq n _ 0 (Nat.zero_le _)
      have hne : n = m * 2 ^ more := Nat.shiftLeft_eq _ _
      -- the whole root is at least one
      have hmag : (2 * whole + (whole * whole != n).toNat) * (2 * whole + (whole * whole != n).toNat) ≤ 16 * n := by
        have hc : (whole * whole != n).toNat ≤ 1 := Bool.toNat_le _
        have hn1 : 1 ≤ n := by rw [hne]; exact Nat.mul_pos (by omega) (Nat.two_pow_pos _)
        by_cases hw : whole = 0
        · rw [hw]
          have : (2 * 0 + (0 * 0 != n).toNat) ≤ 1 := by rw [Nat.mul_zero, Nat.zero_add]; exact Bool.toNat_le _
          have h2 := Nat.mul_le_mul this this
          omega
        · have h1 : 2 * whole + (whole * whole != n).toNat ≤ 4 * whole := by omega
          have h2 := Nat.mul_le_mul h1 h1
          have h3 : 4 * whole * (4 * whole) = 16 * (whole * whole) := by rw [show (16 : Nat) = 4 * 4 from rfl]; ac_rfl
          omega
      generalize (2 * whole + (whole * whole != n).toNat) = M at *
      obtain ⟨A, B, hAB⟩ : ∃ A B : Nat, h - 1 + B = double.leastPlace + A := ⟨(h - 1 + U).toNat, (-(h - 1 + U)).toNat, by rw [hL]; omega⟩
      have hnear := near_nearest double false M (h - 1) A B hAB (sg false (M * 2 ^ A)) (sg_natAbs _ _) (sg_sign _ _)
      rw [hr'] at hnear
      refine hnear.le ?_
      rw [sg_natAbs]
      refine Nat.mul_self_le_mul_self_iff.1 ?_
      have k1 : M * 2 ^ A * (M * 2 ^ A) ≤ 16 * (m * 2 ^ more) * (2 ^ A * 2 ^ A) := by
        have : M * 2 ^ A * (M * 2 ^ A) = M * M * (2 ^ A * 2 ^ A) := by ac_rfl
        rw [this, ← hne]; exact Nat.mul_le_mul_right _ hmag
      have k2 : 16 * (m * 2 ^ more) * (2 ^ A * 2 ^ A) = 4 * (m * 2 ^ a) * 2 ^ U * (2 ^ B * 2 ^ B) := by
        rw [pw1, pw2]
        congr 2
        have hi : i = double.leastPlace + a := rfl
        rw [hL] at hi hAB
        omega
      have k3 : 4 * (m * 2 ^ a) * 2 ^ U * (2 ^ B * 2 ^ B) ≤ mg double s * mg double s * (2 ^ B * 2 ^ B) := by
        rw [e1']; exact Nat.mul_le_mul_right _ hs
      have k4 : mg double s * mg double s * (2 ^ B * 2 ^ B) = mg double s * 2 ^ B * (mg double s * 2 ^ B) := by ac_rfl
      omega

end Go.Proofs.Ytlendjpmblapkaa.Fl
namespace Go.Proofs.Ytlendjpmblapkaa
open Fl Ieee Go.RowKit
set_option linter.unusedVariables false

theorem math_Sqrt (x : Nat) (w : World) : Calls Try.prog 78 #[.float .f64 x] w fun e w' => ∃ r, e = .returned (.float .f64 r) ∧ FR .f64 r (sqrtV (val .f64 x)) ∧ ∃ n, w' = w.drewN n := by
  obtain ⟨r, n, hrun, hf⟩ := run_sqrt (P := Try.prog) x w
  go_enter Try.func78, Try.ntmps78
  go_wp2_with fail
  go_ret
  exact ⟨r, rfl, hf, n, rfl⟩

theorem narOk_root (x : Nat) : NarOk (sqrtV (wid (val .f32 x))) := by
  intro b hb
  rcases val_cases .f32 x with h | h
  · rw [h] at hb
    have hb' : double.sqrt (W x) = some b := hb
    have hnn := (nn_iff .f32 x).1 h
    rcases Nat.lt_or_ge (rung single x) single.infRung with h' | h'
    · have hW := W_fin h'
      have hle : mg double (rung double (W x)) ≤ mg single (single.infRung - 1) * 2 ^ 925 := by
        rw [hW.1]; exact Nat.mul_le_mul_right _ ((mg_le_iff single).2 (by omega))
      have hs := root_le 1074 (by decide) hW.2.2 hb' 4904418691351740416 (by
        refine Nat.le_trans (Nat.mul_le_mul_right _ (Nat.mul_le_mul_left _ hle)) ?_
        decide +kernel)
      have hok := NarOk.of_le (b := b) (Nat.le_trans ((mg_le_iff double).2 hs) (by decide +kernel))
      exact hok b rfl
    · have e : rung single x = single.infRung := by
        have : rung single x ≤ single.infRung := hnn
        omega
      left
      have hr := read_inf double (by decide) (W_inf e).1
      unfold Format.sqrt at hb'
      rw [hr] at hb'
      simp only [Datum.root] at hb'
      split at hb'
      · cases hb'
      · cases hb'
        exact rung_word double _ (Nat.le_refl _)
  · rw [h] at hb; cases hb

theorem impl_RootNumber (x : Nat) (hx : x < 4294967296) (w : World) : Calls Try.prog 71 #[.float .f32 x] w fun e w' => ∃ r, e = .returned (.float .f32 r) ∧ FR .f32 r (nar (sqrtV (wid (val .f32 x)))) ∧ ∃ n, w' = w.drewN n := by
  have hok := narOk_root x
  go_enter Try.func71, Try.ntmps71
  go_wp2_with (first | (refine wpList_widen rfl _ _ _ rfl _ rfl (by kernel_rfl) (by kernel_rfl) ?_; intro r1 n1 hr1) | (go_at_call 78; refine (math_Sqrt _ _).mono ?_; rintro e w' ⟨r2, rfl, hr2, n2, rfl⟩; rw [hr1.val] at hr2) | (refine wpList_narrow rfl _ _ _ rfl _ rfl (by kernel_rfl) (by kernel_rfl) (by rw [hr2.val]; exact hok) ?_; intro r3 n3 hr3))
  go_ret
  exact ⟨r3, rfl, by rw [hr2.val] at hr3; exact hr3, _, rfl⟩

theorem spec_l01Narrow (x : Nat) (hok : NarOk (val .f64 x)) (w : World) : Calls Try.prog 81 #[.float .f64 x] w fun e w' => ∃ r, e = .returned (.float .f32 r) ∧ FR .f32 r (nar (val .f64 x)) ∧ ∃ n, w' = w.drewN n := by
  go_enter Try.func81, Try.ntmps81
  go_wp2_with (refine wpList_narrow rfl _ _ _ rfl _ rfl (by kernel_rfl) (by kernel_rfl) hok ?_; intro r3 n3 hr3)
  go_ret
  exact ⟨r3, rfl, hr3, _, rfl⟩

theorem spec_l01Sqrt (x : Nat) (hx : x < 4294967296) (w : World) : Calls Try.prog 76 #[.float .f32 x] w fun e w' => ∃ r, e = .returned (.float .f32 r) ∧ FR .f32 r (nar (sqrtV (wid (val .f32 x)))) ∧ ∃ n, w' = w.drewN n := by
  have hok := narOk_root x
  go_enter Try.func76, Try.ntmps76
  go_wp2_with (first | (refine wpList_widen rfl _ _ _ rfl _ rfl (by kernel_rfl) (by kernel_rfl) ?_; intro r1 n1 hr1) | (go_at_call 78; refine (math_Sqrt _ _).mono ?_; rintro e w' ⟨r2, rfl, hr2, n2, rfl⟩; rw [hr1.val] at hr2) | (go_at_call 81; refine (spec_l01Narrow _ (by rw [hr2.val]; exact hok) _).mono ?_; rintro e w' ⟨r3, rfl, hr3, n3, rfl⟩))
  go_ret
  exact ⟨r3, rfl, by rw [hr2.val] at hr3; exact hr3, _, rfl⟩

end Go.Proofs.Ytlendjpmblapkaa
namespace Go.Proofs.Ytlendjpmblapkaa
open Fl Go.RowKit
set_option linter.unusedVariables false

/-- The inner product of a vector with itself. -/
def innV (X Y Z : Option Nat) : Option Nat := bin .add .f32 (bin .add .f32 (bin .mul .f32 X X) (bin .mul .f32 Y Y)) (bin .mul .f32 Z Z)
def longV (X Y Z : Option Nat) : Option Nat := nar (sqrtV (wid (innV X Y Z)))

theorem impl_LongOf (a b c : Nat) (w : World) : Calls Try.prog 54 #[.agg #[.float .f32 a, .float .f32 b, .float .f32 c]] w fun e w' => ∃ r, e = .returned (.float .f32 r) ∧ FR .f32 r (longV (val .f32 a) (val .f32 b) (val .f32 c)) ∧ Below w.heap.size w w' := by
  have bw0 : Below w.heap.size w (w.alloc (.cells #[.float .f32 a, .float .f32 b, .float .f32 c] 46)) := Below.alloc (Below.refl _ _) (Nat.le_refl _) _
  go_enter Try.func54, Try.ntmps54
  go_wp2_with (first | (go_at_call 72; refine (impl_InnerOf _ _ _ _ _ _ _).mono ?_; rintro e w' ⟨s, rfl, hs, hb⟩; have bw := bw0.trans (hb.mono bw0.size); have hslt : s < 4294967296 := hs.lt) | (go_at_call 71; refine (impl_RootNumber _ hslt _).mono ?_; rintro e w' ⟨r, rfl, hr, n, rfl⟩) | fail)
  go_ret
  refine ⟨r, rfl, ?_, Below.drewN bw n⟩
  rw [hs.val] at hr
  exact hr

theorem spec_l01Long (a b c : Nat) (w : World) : Calls Try.prog 70 #[.agg #[.float .f32 a, .float .f32 b, .float .f32 c]] w fun e w' => ∃ r, e = .returned (.float .f32 r) ∧ FR .f32 r (longV (val .f32 a) (val .f32 b) (val .f32 c)) ∧ Below w.heap.size w w' := by
  have bw0 : Below w.heap.size w (w.alloc (.cells #[.float .f32 a, .float .f32 b, .float .f32 c] 46)) := Below.alloc (Below.refl _ _) (Nat.le_refl _) _
  go_enter Try.func70, Try.ntmps70
  go_wp2_with (first | (go_at_call 77; refine (spec_l01Inner _ _ _ _ _ _ _).mono ?_; rintro e w' ⟨s, rfl, hs, hb⟩; have bw := bw0.trans (hb.mono bw0.size); have hslt : s < 4294967296 := hs.lt) | (go_at_call 76; refine (spec_l01Sqrt _ hslt _).mono ?_; rintro e w' ⟨r, rfl, hr, n, rfl⟩) | fail)
  go_ret
  refine ⟨r, rfl, ?_, Below.drewN bw n⟩
  rw [hs.val] at hr
  exact hr

end Go.Proofs.Ytlendjpmblapkaa
namespace Go.Proofs.Ytlendjpmblapkaa.Fl
open Ieee
set_option linter.unusedVariables false

theorem cutE_nil (d : Nat) : cutE 0 d = 0 := by
  unfold cutE Toward.cut
  simp [Nat.shiftLeft_eq]
theorem log2_scale (n k : Nat) (h : n ≠ 0) : (n * 2 ^ k).log2 = n.log2 + k := by
  refine (Nat.log2_eq_iff (by have := Nat.two_pow_pos k; exact Nat.mul_ne_zero h (by omega))).2 ⟨?_, ?_⟩
  · rw [Nat.pow_add]; exact Nat.mul_le_mul_right _ (Nat.log2_self_le h)
  · rw [show n.log2 + k + 1 = n.log2 + 1 + k by omega, Nat.pow_add]; exact Nat.mul_lt_mul_of_pos_right Nat.lt_log2_self (Nat.two_pow_pos k)

theorem cutE_scale (n d k : Nat) : cutE (n * 2 ^ k) (d + k) = cutE n d := by
  by_cases hn : n = 0
  · subst hn; rw [Nat.zero_mul, cutE_nil, cutE_nil]
  · unfold cutE Toward.cut
    dsimp only
    rw [log2_scale n k hn, show n.log2 + k + 2 = n.log2 + 2 + k by omega, show min (d + k) (n.log2 + 2 + k) = min d (n.log2 + 2) + k by omega]
    rw [Nat.shiftLeft_eq, Nat.shiftLeft_eq, Nat.one_mul, Nat.one_mul, Nat.pow_add]
    generalize 2 ^ min d (n.log2 + 2) = g
    have hk : 0 < 2 ^ k := Nat.two_pow_pos k
    generalize 2 ^ k = K at *
    rw [Nat.mul_div_mul_right _ _ hk, Nat.mul_mod_mul_right]
    have e1 : decide (g * K < 2 * (n % g * K)) = decide (g < 2 * (n % g)) := by
      rw [decide_eq_decide, ← Nat.mul_assoc]; exact Nat.mul_lt_mul_right hk
    have e2 : (g * K == 2 * (n % g * K)) = (g == 2 * (n % g)) := by
      rw [← Nat.mul_assoc, Bool.eq_iff_iff]; simp only [beq_iff_eq]; exact ⟨fun h => Nat.eq_of_mul_eq_mul_right hk h, fun h => by rw [← h]⟩
    rw [e1, e2]

theorem nearest_scale (f : Format) (neg : Bool) (m : Nat) (p : Int) (k : Nat) : f.nearest neg (m * 2 ^ k) (p - k) = f.nearest neg m p := by
  by_cases hm : m = 0
  · subst hm; rw [Nat.zero_mul]; unfold Format.nearest; rw [if_pos rfl, if_pos rfl]
  · have hk : 0 < 2 ^ k := Nat.two_pow_pos k
    unfold Format.nearest
    rw [if_neg hm, if_neg (Nat.mul_ne_zero hm (by omega))]
    dsimp only
    rw [log2_scale m k hm, show p - (k : Int) + ((m.log2 + k : Nat) : Int) - (f.fractionBits : Int) = p + (m.log2 : Int) - (f.fractionBits : Int) by omega]
    generalize max (p + (m.log2 : Int) - (f.fractionBits : Int)) f.leastPlace = q
    rw [cut_neg, cut_neg]
    congr 2
    obtain ⟨t, h1, h2⟩ : ∃ t, k + (p - k - q).toNat = (p - q).toNat + t ∧ (q - (p - k)).toNat = (q - p).toNat + t := ⟨(q - (p - k)).toNat - (q - p).toNat, by omega, by omega⟩
    rw [h2, Nat.shiftLeft_eq, Nat.shiftLeft_eq, Nat.mul_assoc, ← Nat.pow_add, h1, Nat.pow_add, ← Nat.mul_assoc, cutE_scale]

theorem log2_lt {m n : Nat} (h : m < 2 ^ n) (hm : m ≠ 0) : m.log2 < n := (Nat.log2_lt hm).2 h

/-- Half of a single. -/
theorem half_eq (X : Option Nat) : bin .quo .f32 X (some 1073741824) = bin .mul .f32 (some 1056964608) X := by
  cases X with
  | none => rfl
  | some x =>
    show single.div x 1073741824 = single.mul 1056964608 x
    have r2 : single.read 1073741824 = .number false 8388608 (-22) := by decide
    have rh : single.read 1056964608 = .number false 8388608 (-24) := by decide
    unfold Format.div Format.mul
    rw [r2, rh]
    cases h : single.read x with
    | nan s t => rfl
    | infinity s =>
      show some (single.write (.infinity (s ^^ false))) = some (single.write (.infinity (s ^^ false)))
      rfl
    | number s m i =>
      have hm24 : m < 16777216 := by
        unfold Format.read at h
        dsimp only at h
        have hb : single.binade = 8388608 := by decide
        rw [hb] at h
        split at h
        · injection h with _ h2 _; omega
        · split at h
          · injection h with _ h2 _
            have := Nat.mod_lt (x % single.signWeight) (show 0 < 8388608 by decide)
            omega
          · split at h <;> cases h
      have hl : m.log2 ≤ 23 := by
        by_cases hm : m = 0
        · subst hm; decide
        · have := log2_lt (n := 24) hm24 hm; omega
      show some (single.nearest (s ^^ false) (2 * ((m <<< (25 + Nat.log2 8388608 - m.log2)) / 8388608) + ((m <<< (25 + Nat.log2 8388608 - m.log2)) % 8388608 != 0).toNat) (i - (-22) - ((25 + Nat.log2 8388608 - m.log2 : Nat) : Int) - 1)) = some (single.nearest (false ^^ s) (8388608 * m) (-24 + i))
      rw [show Nat.log2 8388608 = 23 by decide]
      obtain ⟨t, ht⟩ : ∃ t, 25 + 23 - m.log2 = t + 23 := ⟨25 - m.log2, by omega⟩
      rw [ht, Nat.shiftLeft_eq, Nat.pow_add, ← Nat.mul_assoc, show (2 : Nat) ^ 23 = 8388608 by decide, Nat.mul_mod_left, Nat.mul_div_cancel _ (by decide)]
      rw [show (0 != 0 : Bool).toNat = 0 by decide, Nat.add_zero, show 2 * (m * 2 ^ t) = m * 2 ^ (t + 1) by rw [Nat.pow_succ]; ac_rfl, show i - (-22) - ((t + 23 : Nat) : Int) - 1 = (i - 1) - ((t + 1 : Nat) : Int) by omega, nearest_scale]
      rw [show 8388608 * m = m * 2 ^ 23 by rw [Nat.mul_comm], show -24 + i = (i - 1) - ((23 : Nat) : Int) by omega, nearest_scale]
      cases s <;> rfl
end Go.Proofs.Ytlendjpmblapkaa.Fl
namespace Go.Proofs.Ytlendjpmblapkaa
open Fl Go.RowKit Go.Proofs.YtlendjpmblapkaaW.PrintWords Go.Proofs.Ytlendjpmblapkaa.PMesh Msh
set_option linter.unusedVariables false

/-- The values of the vector across a triangle's sides. -/
def crossAt (Q : List S46) (T : List (List Int)) (i : Int) : Option Nat × Option Nat × Option Nat :=
  crossV (rd_T46 Q (rd (rd_L3 T i) 0)) (rd_T46 Q (rd (rd_L3 T i) 1)) (rd_T46 Q (rd (rd_L3 T i) 2))
/-- The length of such a vector. -/
def longX (X : Option Nat × Option Nat × Option Nat) : Option Nat := longV X.1 X.2.1 X.2.2
/-- The sum of the halves of the lengths, so far. -/
def areaV (Q : List S46) (T : List (List Int)) : Nat → Option Nat
  | 0 => some 0
  | i + 1 => bin .add .f32 (areaV Q T i) (bin .mul .f32 (some 1056964608) (longX (crossAt Q T i)))
theorem vhalf : val .f32 1056964608 = some 1056964608 := by decide
theorem vtwo : val .f32 1073741824 = some 1073741824 := by decide
theorem vnil : val .f32 0 = some 0 := by decide

set_option maxHeartbeats 1000000 in
theorem spec_l02Area (g : Nat) (Q : List S46) (T : List (List Int)) (hv : validB Q.length T = true) (w0 w : World) (hI : VarM w0 w g Q T) (hB : Below w0.heap.size w0 w) :
    Calls Try.prog 53 #[.pointer (some ⟨g, 0, none⟩)] w fun E w' => ∃ r, E = .returned (.float .f32 r) ∧ FR .f32 r (areaV Q T T.length) ∧ Below w.heap.size w w' := by
  have hl : T.length ≤ 128 := (validB_iff.1 hv).2.1
  have HI := Lib.hid hI
  have HB := Lib.hid hB
  have HN : Hid (∀ (i : Nat) (W : World), i < T.length → Below w.heap.size w W → Calls Try.prog 50 #[.pointer (some ⟨g, 0, none⟩), .int .i64 (i : Int)] W fun E w' => RetV (crossAt Q T i) E ∧ Below W.heap.size W w') := Lib.hid (fun i W hi hb => by
    obtain ⟨t, ht, h3, ⟨i0, j0⟩, ⟨i1, j1⟩, i2, j2⟩ := tri_at hv (i := (i : Int)) (by omega) (by omega)
    unfold crossAt
    rw [ht]
    exact spec_l02Normal g Q T i w0 W (hI.below hb) (below_then hB hb hB.size) (by omega) (by omega) t ht h3 i0 j0 i1 j1 i2 j2)
  clear hI hB hv
  go_enter Try.func53, Try.ntmps53
  go_wp2_with fail
  go_loopw [3, 4] (fun s k wr => ∃ (i sb : Nat), i ≤ T.length ∧ s = .float .f32 sb ∧ k = .int .i64 (i : Int) ∧ FR .f32 sb (areaV Q T i) ∧ Below w.heap.size w wr) (fun _ k _ => T.length - (intOf k).toNat)
  case atStart => exact ⟨0, 0, Nat.zero_le _, rfl, rfl, ⟨by decide, vnil⟩, by (repeat (first | exact Below.refl _ _ | assumption | (refine Below.drewN ?_ _) | (refine Below.setCell ?_ (by first | (simp; done) | (simp; omega)) _) | (refine Below.drew ?_) | (refine Below.alloc ?_ (by first | (simp; done) | (simp; omega)) _)))⟩
  case round =>
    obtain ⟨i, sb, hi, rfl, rfl, hs, hb⟩ := hrel
    obtain ⟨_, _, _, _, hg, _⟩ := HI.out.below hb
    have hc1 := (blk_cell hg 1).trans rfl
    clear hg
    by_cases hlt : i < T.length
    · have b1 : (i : Int) < (T.length : Int) := by omega
      have hX := HN.out i _ hlt hb
      have HX := Lib.hid hX
      have ha : areaV Q T (i + 1) = bin .add .f32 (areaV Q T i) (bin .mul .f32 (some 1056964608) (longX (crossAt Q T i))) := rfl
      have HA := Lib.hid ha
      clear hX ha
      generalize crossAt Q T i = X at *
      obtain ⟨X0, X1, X2⟩ := X
      go_wp2_with (first
        | (go_at_call 50; refine HX.out.mono ?_; rintro E w1 ⟨⟨p, q, r, rfl, hp, hq, hr⟩, hb1⟩; have B1 := below_then hb hb1 hb.size)
        | (go_at_call 70; refine (spec_l01Long _ _ _ _).mono ?_; rintro E w2 ⟨u, rfl, hu, hb2⟩; have B2 := below_then B1 hb2 B1.size; rw [hp.val, hq.val, hr.val] at hu)
        | (refine wpList_fbin (o := ⟨some 19, _, _, _, _, _⟩) rfl _ _ _ _ _ rfl (by decide) _ _ _ rfl rfl ?_; intro m nm hm; rw [vhalf, hu.val] at hm)
        | (refine wpList_fbin (o := ⟨some 20, _, _, _, _, _⟩) rfl _ _ _ _ _ rfl (by decide) _ _ _ rfl rfl ?_; intro v nv hv; rw [hs.val, hm.val] at hv)
        | fail)
      go_roundw
      case rel => exact ⟨i + 1, v, hlt, rfl, by simp, by rw [HA.out]; exact hv, by (repeat (first | exact Below.refl _ _ | assumption | (refine Below.drewN ?_ _) | (refine Below.setCell ?_ (by first | (simp; done) | (simp; omega)) _) | (refine Below.drew ?_) | (refine Below.alloc ?_ (by first | (simp; done) | (simp; omega)) _)))⟩
      case measure => simp [intOf]; omega
    · obtain rfl : i = T.length := by omega
      go_wp2_with fail
      go_ret
      exact ⟨sb, rfl, hs, hb⟩

/-- What AreaOf answers. -/
def areaR (Q : List S46) (T : List (List Int)) : Option Nat × Bool := if validB Q.length T = true then (areaV Q T T.length, true) else (val .f32 0, false)
/-- What a function with a float and a bool leaves. -/
def AnsF (w : World) (r : Option Nat × Bool) (E : Ending) (w' : World) : Prop := ∃ s, E = .returned (.tuple #[.float .f32 s, .bool r.2]) ∧ FR .f32 s r.1 ∧ Below w.heap.size w w'

theorem spec_AreaOf (A : Option Addr) (c : Nat) (Q : List S46) (B : Option Addr) (e : Nat) (T : List (List Int)) (w : World) (hQ : Kd.C k46 w A Q.length Q) (hT : Kd.C (Kd.slice 2 (Kd.int .i64)) w B T.length T) :
    Calls Try.prog 27 #[.agg #[.slice A Q.length c, .slice B T.length e]] w (AnsF w (areaR Q T)) := by
  have HI := varM_new w A c Q B e T hQ hT
  have HB0 := Lib.hid (Below.alloc (Below.refl w.heap.size w) (Nat.le_refl _) (.cells #[.slice A Q.length c, .slice B T.length e] 30))
  clear hQ hT
  by_cases hv : validB Q.length T = true
  · have hr : areaR Q T = (areaV Q T T.length, true) := by unfold areaR; rw [if_pos hv]
    rw [hr]
    have HN := Lib.hid (fun (W : World) (a : VarM w W w.heap.size Q T) (b : Below w.heap.size w W) => spec_l02Area w.heap.size Q T hv w W a b)
    generalize areaV Q T T.length = X at *
    have HV := Lib.hid hv
    clear hv hr
    go_enter Try.func27, Try.ntmps27
    go_wp2_with (first
      | (go_at_call 32; refine (is_step Q T true HV.out _ w _ HI.out HB0.out).mono ?_; rintro e w1 ⟨rfl, I1, B1⟩)
      | (go_at_call 53; refine (HN.out _ I1.out B1.out).mono ?_; rintro E w2 ⟨s, rfl, hs, hb⟩; have B2 := below_then B1.out hb B1.out.size)
      | fail)
    go_ret2
    exact ⟨s, rfl, hs, B2⟩
  · have hr : areaR Q T = (val .f32 0, false) := by unfold areaR; rw [if_neg hv]
    rw [hr]
    have hv' := Bool.eq_false_iff.2 hv
    have HV := Lib.hid hv'
    clear hv hv' hr
    go_enter Try.func27, Try.ntmps27
    go_wp2_with (first
      | (go_at_call 32; refine (is_step Q T false HV.out _ w _ HI.out HB0.out).mono ?_; rintro e w1 ⟨rfl, I1, B1⟩)
      | fail)
    go_ret2
    exact ⟨0, rfl, FR_zero, B1.out⟩

set_option maxHeartbeats 1000000 in
theorem impl_AreaOf (A : Option Addr) (c : Nat) (Q : List S46) (B : Option Addr) (e : Nat) (T : List (List Int)) (w : World) (hQ : Kd.C k46 w A Q.length Q) (hq : Q.length ≤ c) (hT : Kd.C (Kd.slice 2 (Kd.int .i64)) w B T.length T) (hqt : T.length ≤ e) :
    Calls Try.prog 28 #[.agg #[.slice A Q.length c, .slice B T.length e]] w (AnsF w (areaR Q T)) := by
  have hx0 := BoxAt.new w 30 (.slice A Q.length c) (.slice B T.length e)
  have hb0 := Below.alloc (Below.refl w.heap.size w) (Nat.le_refl _) (.cells #[.slice A Q.length c, .slice B T.length e] 30)
  have hc0 := hx0.c0
  have hc1 := hx0.c1
  have HX0 := Lib.hid hx0
  have HB0 := Lib.hid hb0
  have HT := Lib.hid (fun (W : World) (h : Below w.heap.size w W) => impl_ValidMesh.calls 2097156 A c Q B e T _ W (Kd.C_below hQ h) hq (Kd.C_below hT h) hqt (valid_f Q T _ (by omega)))
  by_cases hv : validB Q.length T = true
  · have hl : T.length ≤ 128 := (validB_iff.1 hv).2.1
    have hr : areaR Q T = (areaV Q T T.length, true) := by unfold areaR; rw [if_pos hv]
    rw [hr]
    have HN : Hid (∀ (i : Nat) (W : World), i < T.length → Below w.heap.size w W → ∃ ba C tl cc, B = some ba ∧ w.cell? (ba.add i) = some (.slice C tl cc) ∧ Calls Try.prog 52 #[.agg #[.slice A Q.length c, .slice B T.length e], .slice C tl cc] W fun E w' => RetV (crossAt Q T i) E ∧ Below W.heap.size W w') := Lib.hid (fun i W hi hb => by
      obtain ⟨t, ht, h3, ⟨i0, j0⟩, ⟨i1, j1⟩, i2, j2⟩ := tri_at hv (i := (i : Int)) (by omega) (by omega)
      obtain ⟨ba, C, cc, hba, tc, hcc, hC⟩ := at_L3 hT (i : Int) (by omega) (by omega)
      rw [ht, Int.toNat_natCast] at tc
      rw [ht] at hC
      refine ⟨ba, C, _, cc, hba, tc, ?_⟩
      unfold crossAt
      rw [ht]
      exact impl_normalOf A c Q _ C cc t W (Kd.C_below hQ hb) (Kd.C_below hC hb) h3 i0 j0 i1 j1 i2 j2)
    rw [hv] at HT
    clear hr hv hQ hT hq hqt hx0 hb0
    go_enter Try.func28, Try.ntmps28
    go_wp2_with (first
      | (go_at_call 12; refine (HT.out _ HB0.out).mono ?_; rintro E w1 ⟨rfl, hb⟩; have hx1 := HX0.out.below hb; have B1 := below_then HB0.out hb HB0.out.size; have hd0 := hx1.c0; have hd1 := hx1.c1; clear hb hc0 hc1)
      | fail)
    go_loopw [4, 13] (fun s k wr => ∃ (i sb : Nat), i ≤ T.length ∧ s = .float .f32 sb ∧ k = .int .i64 (i : Int) ∧ FR .f32 sb (areaV Q T i) ∧ BoxAt wr w.heap.size 30 (.slice A Q.length c) (.slice B T.length e) ∧ Below w.heap.size w wr) (fun _ k _ => T.length - (intOf k).toNat)
    case atStart => exact ⟨0, 0, Nat.zero_le _, rfl, rfl, ⟨by decide, vnil⟩, hx1, B1⟩
    case round =>
      obtain ⟨i, sb, hi, rfl, rfl, hs, hx, hb⟩ := hrel
      clear hx1 B1 hd0 hd1
      have hd0 := hx.c0
      have hd1 := hx.c1
      by_cases hlt : i < T.length
      · have b1 : (i : Int) < (T.length : Int) := by omega
        have b2 : (0 : Int) ≤ (i : Int) := by omega
        have b3 : (i : Int) < 1048576 := by omega
        obtain ⟨ba, C, tl, cc, rfl, tc, hX⟩ := HN.out i _ hlt hb
        replace tc := old_cell hb tc
        have HX := Lib.hid hX
        have ha : areaV Q T (i + 1) = bin .add .f32 (areaV Q T i) (bin .mul .f32 (some 1056964608) (longX (crossAt Q T i))) := rfl
        have HA := Lib.hid ha
        clear hX ha
        generalize crossAt Q T i = X at *
        obtain ⟨X0, X1, X2⟩ := X
        go_wp2_with (first
          | (go_at_call 52; refine HX.out.mono ?_; rintro E w2 ⟨⟨p, q, r, rfl, hp, hq, hr⟩, hb1⟩; have B2 := below_then hb hb1 hb.size; have hx2 := hx.below hb1)
          | (go_at_call 54; refine (impl_LongOf _ _ _ _).mono ?_; rintro E w3 ⟨u, rfl, hu, hb2⟩; have B3 := below_then B2 hb2 B2.size; have hx3 := hx2.below hb2; rw [hp.val, hq.val, hr.val] at hu)
          | (refine wpList_fbin (o := ⟨some 22, _, _, _, _, _⟩) rfl _ _ _ _ _ rfl (by decide) _ _ _ rfl rfl ?_; intro m nm hm; rw [vtwo, hu.val, half_eq] at hm)
          | (refine wpList_fbin (o := ⟨some 23, _, _, _, _, _⟩) rfl _ _ _ _ _ rfl (by decide) _ _ _ rfl rfl ?_; intro v nv hv; rw [hs.val, hm.val] at hv)
          | fail)
        go_roundw
        case rel => exact ⟨i + 1, v, hlt, rfl, by simp, by rw [HA.out]; exact hv, hx3, by (repeat (first | exact Below.refl _ _ | assumption | (refine Below.drewN ?_ _) | (refine Below.setCell ?_ (by first | (simp; done) | (simp; omega)) _) | (refine Below.drew ?_) | (refine Below.alloc ?_ (by first | (simp; done) | (simp; omega)) _)))⟩
        case measure => simp [intOf]; omega
      · obtain rfl : i = T.length := by omega
        go_wp2_with fail
        go_ret2
        exact ⟨sb, rfl, hs, hb⟩
  · have hr : areaR Q T = (val .f32 0, false) := by unfold areaR; rw [if_neg hv]
    rw [hr]
    have hv' := Bool.eq_false_iff.2 hv
    rw [hv'] at HT
    clear hr hv hv' hQ hT hq hqt hx0 hb0
    go_enter Try.func28, Try.ntmps28
    go_wp2_with (first
      | (go_at_call 12; refine (HT.out _ HB0.out).mono ?_; rintro E w1 ⟨rfl, hb⟩; have B1 := below_then HB0.out hb HB0.out.size; clear hb hc0 hc1)
      | fail)
    go_ret2
    exact ⟨0, rfl, FR_zero, B1⟩

end Go.Proofs.Ytlendjpmblapkaa
namespace Go.Proofs.Ytlendjpmblapkaa
open Fl Go.RowKit Go.Proofs.YtlendjpmblapkaaW.PrintWords Go.Proofs.Ytlendjpmblapkaa.PMesh Msh
set_option linter.unusedVariables false

set_option maxHeartbeats 4000000 in
set_option maxRecDepth 100000 in
theorem fnExactAreaOf_walk (w : World) (A : Option Addr) (c : Nat) (L : List S75) (B : Option Addr) (e : Nat) (T : List (List Int)) (hL : Kd.C k75 w A L.length L) (hc : L.length ≤ c) (hT : Kd.C (Kd.slice 2 (Kd.int .i64)) w B T.length T) (he : T.length ≤ e) (ok : MeshOk L T) :
    Calls Try.prog 8 #[.agg #[.slice A L.length c, .slice B T.length e]] w fun e w' => e = .returned (.bool true) ∧ Below w.heap.size w w' := by
  have came : CameM w A c L B e T := ⟨hL, hc, hT, he⟩
  obtain ⟨r, hsm, hr1, hsz⟩ := sz_step w w A c L B e T came ok 1048576 (by omega) (by omega)
  obtain ⟨P, hP⟩ : ∃ P, P = L.map toV := ⟨_, rfl⟩
  have HSZ := Lib.hid hsz
  have K0 := Lib.hid (below_alloc (Below.refl w.heap.size w) (.cells #[.slice A L.length c, .slice B T.length e] 25))
  clear hsz hL hc hT he
  by_cases hneg : r < 0
  · clear came hsm
    go_enter Try.func8, Try.ntmps8
    go_wp2_with (first | (go_at_call 9; refine (HSZ.out _ K0.out).mono ?_; rintro E w1 ⟨rfl, hb⟩; have K1 := Lib.hid (below_then K0.out hb K0.out.size); clear hb) | fail)
    go_ret
    exact ⟨rfl, K1.out⟩
  · have hs := hsm (by omega)
    have hPl : P.length = L.length := by rw [hP, List.length_map]
    have hb1 : P.length ≤ 1048576 := by rw [hPl]; exact hs.1
    have hsim : simP P P := simP_self (by rw [hP]; exact map_ok ok.fl)
    have hto := to_step w A c L B e T came hs P hP
    obtain ⟨ans, hans⟩ : ∃ ans, ans = areaR P T := ⟨_, rfl⟩
    have h1 : ∀ (A : Option Addr) (c : Nat) (B : Option Addr) (e : Nat) (W : World), Kd.C k46 W A P.length P → P.length ≤ c → Kd.C (Kd.slice 2 (Kd.int .i64)) W B T.length T → T.length ≤ e → Calls Try.prog 27 #[.agg #[.slice A P.length c, .slice B T.length e]] W (AnsF W ans) := fun A c B e W p p' q q' => by rw [hans]; exact spec_AreaOf A c P B e T W p q
    have h2 : ∀ (A : Option Addr) (c : Nat) (B : Option Addr) (e : Nat) (W : World), Kd.C k46 W A P.length P → P.length ≤ c → Kd.C (Kd.slice 2 (Kd.int .i64)) W B T.length T → T.length ≤ e → Calls Try.prog 28 #[.agg #[.slice A P.length c, .slice B T.length e]] W (AnsF W ans) := fun A c B e W p p' q q' => by rw [hans]; exact impl_AreaOf A c P B e T W p p' q q'
    obtain ⟨X0, b⟩ := ans
    have H1 := Lib.hid h1
    have H2 := Lib.hid h2
    have HTO := Lib.hid hto
    have HT1 : Hid (T.length ≤ 1048576) := Lib.hid hs.2.1
    have HT2 : Hid (∀ t ∈ T, t.length ≤ 1048576) := Lib.hid hs.2.2
    have HSI := Lib.hid hsim
    have BA0 := Lib.hid (BoxAt.new w 25 (.slice A L.length c) (.slice B T.length e))
    have z0 := BA0.out.lt
    clear h1 h2 hto hs hsim hsm hans hP came hPl ok
    go_enter Try.func8, Try.ntmps8
    go_wp2_with (first
      | (go_at_call 9; refine (HSZ.out _ K0.out).mono ?_; rintro E w1 ⟨rfl, hb⟩; have z1 := hb.size; have BA1 := Lib.hid (BA0.out.below hb); have bac1 := BA1.out.c0; have bad1 := BA1.out.c1; (try clear bac0 bad0); have K1 := Lib.hid (below_then K0.out hb K0.out.size); clear hb)
      | (go_at_call 11; first
          | (refine (HTO.out _ K4.out).mono ?_; rintro E w5 ⟨A5, c5, B5, e5, rfl, hx, hb, hk⟩; have z5 := hb.size; have BA5 := Lib.hid (BA4.out.below hb); have bac5 := BA5.out.c0; have bad5 := BA5.out.c1; (try clear bac4 bad4); have X5 := Lib.hid hx; have K5 := Lib.hid hk; obtain ⟨w6, hw6⟩ : ∃ w6, w6 = w5.alloc (.cells #[.slice A5 P.length c5, .slice B5 T.length e5] 30) := ⟨_, rfl⟩; have hv6 := below_alloc (Below.refl w5.heap.size w5) (.cells #[.slice A5 P.length c5, .slice B5 T.length e5] 30); rw [← hw6] at hv6; have z6 := hv6.size; have X6 := Lib.hid (X5.out.below hv6); have BA6 := Lib.hid (BA5.out.below hv6); have bac6 := BA6.out.c0; have bad6 := BA6.out.c1; (try clear bac5 bad5); have BX6 := Lib.hid (BoxAt.new w5 30 (.slice A5 P.length c5) (.slice B5 T.length e5)); rw [← hw6] at BX6; have y6 := BX6.out.lt; have K6 := Lib.hid (below_then K5.out hv6 K5.out.size); have WW6 := Lib.hid hw6; clear hv6 hw6; clear hx hb hk)
          | (refine (HTO.out _ K1.out).mono ?_; rintro E w2 ⟨A2, c2, B2, e2, rfl, hx, hb, hk⟩; have z2 := hb.size; have BA2 := Lib.hid (BA1.out.below hb); have bac2 := BA2.out.c0; have bad2 := BA2.out.c1; (try clear bac1 bad1); have D2 := Lib.hid hx; have K2 := Lib.hid hk; clear hx hb hk))
      | (go_at_call 27; refine (H1.out _ _ _ _ _ D2.out.C.1 D2.out.C.2.1 D2.out.C.2.2.1 D2.out.C.2.2.2).mono ?_; rintro E w4 ⟨p1, rfl, hp1, hb⟩; have z4 := hb.size; have BA4 := Lib.hid (BA2.out.below hb); have bac4 := BA4.out.c0; have bad4 := BA4.out.c1; (try clear bac2 bad2); have K4 := Lib.hid (below_then K2.out hb K2.out.size); clear hb)
      | (go_at_call 28; rw [← WW6.out]; refine (H2.out _ _ _ _ _ X6.out.C.1 X6.out.C.2.1 X6.out.C.2.2.1 X6.out.C.2.2.2).mono ?_; rintro E w9 ⟨p2, rfl, hp2, hb⟩; have z9 := hb.size; have X9 := Lib.hid (X6.out.below hb); have BA9 := Lib.hid (BA6.out.below hb); have bac9 := BA9.out.c0; have bad9 := BA9.out.c1; (try clear bac6 bad6); have BX9 := Lib.hid (BX6.out.below hb); have bxc9 := BX9.out.c0; have bxd9 := BX9.out.c1; (try clear bxc6 bxd6); have K9 := Lib.hid (below_then K6.out hb K6.out.size); clear hb)
      | (refine wpList_widen (o := ⟨some 28, _, _, _, _, _⟩) rfl _ _ _ rfl _ rfl (by kernel_rfl) (by kernel_rfl) ?_; intro q2 nq2 hq2; rw [hp2.val] at hq2)
      | (refine wpList_widen (o := ⟨some 30, _, _, _, _, _⟩) rfl _ _ _ rfl _ rfl (by kernel_rfl) (by kernel_rfl) ?_; intro q1 nq1 hq1; rw [hp1.val] at hq1)
      | (go_at_call 29; refine (sameFloat_FR _ _ _ (by assumption) (by assumption) _).mono ?_; rintro e w' ⟨rfl, n, rfl⟩)
      | fail)
    obtain ⟨R, hR⟩ : ∃ R : World → Prop, R = fun W => OwnM W w4.heap.size w5.heap.size (.slice A5 P.length c5) (.slice B5 T.length e5) P T ∧ Below w.heap.size w W := ⟨_, rfl⟩
    have hRb : ∀ W W', R W → Below W.heap.size W W' → R W' := by rw [hR]; rintro W W' ⟨x1, x4⟩ hb; exact ⟨x1.below hb, below_then x4 hb x4.size⟩
    have hR0 : R w9 := by rw [hR]; exact ⟨X9.out, K9.out⟩
    have hRK : ∀ W, R W → Below w.heap.size w W := by rw [hR]; rintro W ⟨_, x4⟩; exact x4
    have hRX : ∀ W, R W → OwnM W w4.heap.size w5.heap.size (.slice A5 P.length c5) (.slice B5 T.length e5) P T := by rw [hR]; rintro W ⟨x1, _⟩; exact x1
    have HRD := Lib.hid hR
    have HRB := Lib.hid hRb
    have HRK := Lib.hid hRK
    have HRX := Lib.hid hRX
    have hS0 : (w9.drewN (nq2 + nq1 + n)).cell? ⟨w.heap.size, 0, none⟩ = some (.slice A L.length c) ∧ (w9.drewN (nq2 + nq1 + n)).cell? ⟨w.heap.size, 1, none⟩ = some (.slice B T.length e) ∧ (w9.drewN (nq2 + nq1 + n)).cell? ⟨w5.heap.size, 0, none⟩ = some (.slice A5 P.length c5) ∧ (w9.drewN (nq2 + nq1 + n)).cell? ⟨w5.heap.size, 1, none⟩ = some (.slice B5 T.length e5) ∧ BoxAt (w9.drewN (nq2 + nq1 + n)) w.heap.size 25 (.slice A L.length c) (.slice B T.length e) ∧ BoxAt (w9.drewN (nq2 + nq1 + n)) w5.heap.size 30 (.slice A5 P.length c5) (.slice B5 T.length e5) ∧ R (w9.drewN (nq2 + nq1 + n)) := keep4 hRb (Below.drewN (Below.refl _ _) _) ⟨BA9.out.c0, BA9.out.c1, BX9.out.c0, BX9.out.c1, BA9.out, BX9.out, hR0⟩
    obtain ⟨W9, hW9⟩ : ∃ W, W = w9.drewN (nq2 + nq1 + n) := ⟨_, rfl⟩
    rw [← hW9] at hS0 ⊢
    clear hR hRb hRK hRX hR0 bac9 bad9 bxc9 bxd9 hW9
    go_region_held3 (fun w' => w'.cell? ⟨w.heap.size, 0, none⟩ = some (.slice A L.length c) ∧ w'.cell? ⟨w.heap.size, 1, none⟩ = some (.slice B T.length e) ∧ w'.cell? ⟨w5.heap.size, 0, none⟩ = some (.slice A5 P.length c5) ∧ w'.cell? ⟨w5.heap.size, 1, none⟩ = some (.slice B5 T.length e5) ∧ BoxAt w' w.heap.size 25 (.slice A L.length c) (.slice B T.length e) ∧ BoxAt w' w5.heap.size 30 (.slice A5 P.length c5) (.slice B5 T.length e5) ∧ R w') (first | with_reducible assumption | with_reducible exact keep4 HRB.out (by with_reducible assumption) (by with_reducible assumption) | with_reducible exact keep4d HRB.out (by with_reducible assumption))
      (first | (go_at_call 11; (with_reducible refine (HTO.out _ (HRK.out _ (rest4 (by with_reducible assumption)))).mono ?_); rintro E w10 ⟨A10, c10, B10, e10, rfl, hx, hb, hk⟩; have D10 := Lib.hid hx; clear hx hk) | (go_at_call 13; (with_reducible refine (eq_step P P T HSI.out hb1 HT1.out HT2.out _ _ _ _ _ 0 0 _ _ 0 0 _ _ _ _ _ _ (HRX.out _ (rest4 (by with_reducible assumption))) D10.out).mono ?_); rintro E w11 ⟨rfl, hb⟩))
    all_goals
      rename_i hH
      obtain ⟨bac11, bad11, bxc11, bxd11, bA, bX, hr⟩ := hH
      have hk := HRK.out _ hr
      go_wp2_with fail
      go_ret
      exact ⟨rfl, hk⟩

end Go.Proofs.Ytlendjpmblapkaa
namespace Go.Proofs.Ytlendjpmblapkaa
open Go.ChangeShapes Go.WideShapes Go.ChangeAt Go.RowKit Go.Deep
open Go.ChangeMaps (open_string shut_string)

/-- A row of cells that can be read from A on; nil has none. -/
def RowIn (w : World) (A : Option Addr) (cs : List Value) : Prop :=
  (A = none ∧ cs = []) ∨ ∃ b off, A = some ⟨b, off, none⟩ ∧ b < w.heap.size ∧ ∀ i v, cs[i]? = some v → w.cell? ⟨b, off + i, none⟩ = some v

section
variable {H : Type} {enc : TypeId × Value → H} {P : Program} {w : World} {base : Nat} {spare : Nat → Bool} {held : Bool}

theorem flt_lt {k : FloatKind} {b : Nat} (h : (Lit.float k b).wf = true) : b < 2 ^ k.format.width := by
  cases k
  · show b < 4294967296; simpa [Lit.wf] using h
  · show b < 18446744073709551616; simpa [Lit.wf] using h

theorem op_float {r : Reach} {b0 : Nat} {t : TypeId} {k : FloatKind} {v : Value} {d : DataW H} {ps : List MemPlace} (ht : P.underlying t = some (.float k)) (hval : Value.okWide P w r b0 t v) (hd : DataW.Trod enc P w base spare held t v d ps) :
    ∃ b, b < 2 ^ k.format.width ∧ v = .float k b := by
  obtain ⟨b, rfl, _, _, hw⟩ := open_float ht hval hd
  exact ⟨b, flt_lt hw, rfl⟩

theorem op_int {r : Reach} {b0 : Nat} {t : TypeId} {k : IntKind} {v : Value} {d : DataW H} {ps : List MemPlace} (ht : P.underlying t = some (.int k)) (hval : Value.okWide P w r b0 t v) (hd : DataW.Trod enc P w base spare held t v d ps) :
    ∃ n, (k.min ≤ n ∧ n ≤ k.max) ∧ v = .int k n := by
  obtain ⟨n, rfl, _, _, hw⟩ := open_int ht hval hd
  exact ⟨n, by simpa [Lit.wf] using hw, rfl⟩

theorem op_string {r : Reach} {b0 : Nat} {t : TypeId} {v : Value} {d : DataW H} {ps : List MemPlace} (ht : P.underlying t = some .string) (hval : Value.okWide P w r b0 t v) (hd : DataW.Trod enc P w base spare held t v d ps) :
    ∃ s : ByteArray, s.size ≤ maxLen ∧ v = .string s := by
  obtain ⟨s, rfl, _, _, hw⟩ := open_string ht hval hd
  exact ⟨s, hw, rfl⟩

theorem trod_float {t : TypeId} {k : FloatKind} {n : Nat} {v : Value} {x : DataW H × List MemPlace} (ht : P.underlying t = some (.float k)) (h : DataW.trod enc P w base spare held n t [v] = some x) :
    ∃ b, b < 2 ^ k.format.width ∧ v = .float k b := by
  cases n with
  | zero => simp [DataW.trod] at h
  | succ n =>
    simp only [DataW.trod, ht] at h
    cases v <;> simp at h
    rename_i k' b
    obtain ⟨⟨rfl, hw⟩, _⟩ := h
    exact ⟨b, flt_lt hw, rfl⟩

theorem op_vec {r : Reach} {b0 : Nat} {t f : TypeId} {F : Array Field} {v : Value} {d : DataW H} {p : List MemPlace} (hs : P.underlying t = some (.struct F)) (hf : P.underlying f = some (.float .f32))
    (hF : (F.map (·.type)) = #[f, f, f]) (hone0 : oneCellFields P F = true) (hC : P.cellsOf t = 3)
    (hv : Value.okWide P w r b0 t v) (h : DataW.Trod enc P w base spare held t v d p) :
    ∃ x y z : Nat, x < 2 ^ 32 ∧ y < 2 ^ 32 ∧ z < 2 ^ 32 ∧ v = .agg #[.float .f32 x, .float .f32 y, .float .f32 z] := by
  obtain ⟨F⟩ := F
  have hl : F.length = 3 := by simpa using congrArg Array.size hF
  match F, hl with
  | [f0, f1, f2], _ =>
    simp at hF
    obtain ⟨e0, e1, e2⟩ := hF
    have hone : oneCellFields P #[f0, f1, f2] = true := hone0
    obtain ⟨v0, v1, v2, y0, y1, y2, n, rfl, _, _, t0, t1, t2⟩ := Joins.open_agg3 hs hone hC hv h
    rw [e0] at t0; rw [e1] at t1; rw [e2] at t2
    obtain ⟨x, hx, rfl⟩ := trod_float hf t0
    obtain ⟨y, hy, rfl⟩ := trod_float hf t1
    obtain ⟨z, hz, rfl⟩ := trod_float hf t2
    exact ⟨x, y, z, hx, hy, hz, rfl⟩
end
end Go.Proofs.Ytlendjpmblapkaa
namespace Go.Proofs.Ytlendjpmblapkaa
open Go.ChangeShapes Go.WideShapes Go.ChangeAt Go.RowKit Go.Deep Go.Proofs.YtlendjpmblapkaaW.PrintWords Go.Proofs.Ytlendjpmblapkaa.PMesh Msh
set_option linter.unusedVariables false

section
variable {H : Type} {enc : TypeId × Value → H} {P : Program} {w : World} {base : Nat} {held : Bool}

/-- A slice whose elements are opened one by one. -/
theorem op_rows {α : Type} (d : Kd α) (ok : α → Prop) {t e : TypeId} (ht : P.underlying t = some (.slice e)) (hC : P.cellsOf e = d.sz)
    (hel : ∀ (n : Nat) (cs : List Value) (y : DataW H × List MemPlace), DataW.trod enc P w base (fun _ => true) held n e cs = some y → ∃ x : α, d.K w x cs ∧ ok x)
    {fuel : Nat} {cs : List Value} {y : DataW H × List MemPlace} (h : DataW.trod enc P w base (fun _ => true) held fuel t cs = some y) :
    ∃ (A : Option Addr) (c : Nat) (xs : List α), cs = [.slice A xs.length c] ∧ xs.length ≤ c ∧ xs.length ≤ 9223372036854775807 ∧ Kd.C d w A xs.length xs ∧ ∀ x ∈ xs, ok x := by
  rcases open_slice ht h with ⟨rfl, _⟩ | ⟨a, len, cap, m, n, D, Pl, rfl, _, hl, hm, hmm, hyy, hx⟩
  · exact ⟨none, 0, [], rfl, Nat.le_refl _, by simp, Kd.C_nil d w, fun x hx => by simp at hx⟩
  · have hml : len ≤ m := by rw [hmm]; split <;> omega
    have each : ∀ i, i < len → ∃ x : α, (∃ cs', w.cells? base (a.add (i * d.sz)) d.sz = some cs' ∧ d.K w x cs') ∧ ok x := by
      intro i hi
      obtain ⟨cs', hc, ht'⟩ := hx i (by omega)
      rw [hC] at hc
      obtain ⟨x, hk, ho⟩ := hel n cs' _ ht'
      exact ⟨x, ⟨cs', hc, hk⟩, ho⟩
    obtain ⟨xs, hxl, hxs⟩ : ∃ xs : List α, xs.length = len ∧ ∀ i x, xs[i]? = some x → (∃ cs', w.cells? base (a.add (i * d.sz)) d.sz = some cs' ∧ d.K w x cs') ∧ ok x := by
      clear hx hml hmm hl hm hyy h
      induction len with
      | zero => exact ⟨[], rfl, fun i x hx => by simp at hx⟩
      | succ k ih =>
        obtain ⟨xs, hl, hx⟩ := ih (fun i hi => each i (by omega))
        obtain ⟨z, hz⟩ := each k (by omega)
        refine ⟨xs ++ [z], by simp [hl], fun i x hix => ?_⟩
        rcases Nat.lt_or_ge i xs.length with h' | h'
        · rw [List.getElem?_append_left h'] at hix
          exact hx i x hix
        · rw [List.getElem?_append_right h'] at hix
          have : i - xs.length = 0 := by
            rcases Nat.eq_zero_or_pos (i - xs.length) with h0 | h0
            · exact h0
            · rw [List.getElem?_eq_none (by simp; omega)] at hix; cases hix
          obtain rfl : i = k := by omega
          rw [this] at hix
          cases hix
          exact hz
    have hM : maxLen = 9223372036854775807 := rfl
    subst hxl
    refine ⟨some a, cap, xs, rfl, hl, by omega, ⟨rfl, by omega, fun _ => ⟨a, rfl, fun j p hj => ?_⟩⟩, fun x hxm => ?_⟩
    · obtain ⟨⟨cs', hc, hk⟩, _⟩ := hxs j p hj
      obtain ⟨_, hcl, hat⟩ := World.cells?_some hc
      refine ⟨cs', hcl, hk, fun i u hu => ?_⟩
      have hi : i < d.sz := by
        rcases Nat.lt_or_ge i cs'.length with h' | h'
        · omega
        · rw [List.getElem?_eq_none h'] at hu; cases hu
      have := hat i hi
      rw [Go.Deep.add_add] at this
      rw [this, hu]
    · obtain ⟨i, hi, rfl⟩ := List.getElem_of_mem hxm
      exact (hxs i _ (List.getElem?_eq_getElem hi)).2

theorem trod_int1 {t : TypeId} {k : IntKind} {n : Nat} {cs : List Value} {x : DataW H × List MemPlace} (ht : P.underlying t = some (.int k)) (hC : P.cellsOf t = 1) (h : DataW.trod enc P w base (fun _ => true) held n t cs = some x) :
    ∃ b : Int, cs = [.int k b] ∧ (Lit.int k b).wf = true := by
  cases n with
  | zero => simp [DataW.trod] at h
  | succ n =>
    simp only [DataW.trod, ht] at h
    match cs with
    | [] => simp at h
    | [v] =>
      cases v <;> simp at h
      rename_i k' b
      obtain ⟨⟨rfl, hw⟩, _⟩ := h
      exact ⟨b, rfl, hw⟩
    | _ :: _ :: _ => simp at h

theorem op_tris {t e q : TypeId} (ht : P.underlying t = some (.slice e)) (he : P.underlying e = some (.slice q)) (hq : P.underlying q = some (.int .i64)) (ce : P.cellsOf e = 1) (cq : P.cellsOf q = 1)
    {fuel : Nat} {cs : List Value} {y : DataW H × List MemPlace} (h : DataW.trod enc P w base (fun _ => true) held fuel t cs = some y) :
    ∃ (A : Option Addr) (c : Nat) (T : List (List Int)), cs = [.slice A T.length c] ∧ T.length ≤ c ∧ T.length ≤ 9223372036854775807 ∧ Kd.C (Kd.slice q (Kd.int .i64)) w A T.length T ∧ ∀ t ∈ T, t.length ≤ 9223372036854775807 := by
  refine op_rows (Kd.slice q (Kd.int .i64)) (fun t => t.length ≤ 9223372036854775807) ht ce (fun n cs y hy => ?_) h
  obtain ⟨A, c, xs, rfl, hc, hl, hC, _⟩ := op_rows (Kd.int .i64) (fun _ => True) he cq (fun n cs y hy => by
    obtain ⟨b, rfl, _⟩ := trod_int1 hq cq hy
    exact ⟨b, rfl, trivial⟩) hy
  exact ⟨xs, ⟨A, c, rfl, hc, hC⟩, hl⟩

theorem op_vrow {t f : TypeId} {f0 f1 f2 : Field} {n : Nat} {cs : List Value} {x : DataW H × List MemPlace} (hs : P.underlying t = some (.struct #[f0, f1, f2])) (hf : P.underlying f = some (.float .f32)) (e0 : f0.type = f) (e1 : f1.type = f) (e2 : f2.type = f)
    (hone : oneCellFields P #[f0, f1, f2] = true) (hC : P.cellsOf t = 3) (h : DataW.trod enc P w base (fun _ => true) held n t cs = some x) :
    ∃ a b c : Nat, a < 4294967296 ∧ b < 4294967296 ∧ c < 4294967296 ∧ cs = [.float .f32 a, .float .f32 b, .float .f32 c] := by
  obtain ⟨y0, y1, y2, m, _, hl, t0, t1, t2⟩ := trod_struct3 hs h
  rw [hC] at hl
  obtain ⟨o0, k0⟩ := hone_of hone 0 f0 rfl
  obtain ⟨o1, k1⟩ := hone_of hone 1 f1 rfl
  obtain ⟨o2, k2⟩ := hone_of hone 2 f2 rfl
  match cs, hl with
  | [v0, v1, v2], _ =>
    rw [o0, k0, e0] at t0
    rw [o1, k1, e1] at t1
    rw [o2, k2, e2] at t2
    obtain ⟨a, ha, rfl⟩ := trod_float (v := v0) hf t0
    obtain ⟨b, hb, rfl⟩ := trod_float (v := v1) hf t1
    obtain ⟨c, hc, rfl⟩ := trod_float (v := v2) hf t2
    exact ⟨a, b, c, ha, hb, hc, rfl⟩

theorem op_mesh {r : Reach} {b0 : Nat} {t tp tv tf tt ts ti : TypeId} {F G : Array Field} {v : Value} {d : DataW H} {p : List MemPlace}
    (hs : P.underlying t = some (.struct F)) (hF : (F.map (·.type)) = #[tp, tt]) (hone : oneCellFields P F = true) (hC : P.cellsOf t = 2)
    (hp : P.underlying tp = some (.slice tv)) (hv : P.underlying tv = some (.struct G)) (hG : (G.map (·.type)) = #[tf, tf, tf]) (honeG : oneCellFields P G = true) (hCv : P.cellsOf tv = 3) (hf : P.underlying tf = some (.float .f32))
    (ht : P.underlying tt = some (.slice ts)) (hts : P.underlying ts = some (.slice ti)) (hti : P.underlying ti = some (.int .i64)) (cs1 : P.cellsOf ts = 1) (ci : P.cellsOf ti = 1)
    (hval : Value.okWide P w r b0 t v) (h : DataW.Trod enc P w base (fun _ => true) held t v d p) :
    ∃ (A : Option Addr) (c : Nat) (L : List S75) (B : Option Addr) (e : Nat) (T : List (List Int)), v = .agg #[.slice A L.length c, .slice B T.length e] ∧ Kd.C k75 w A L.length L ∧ L.length ≤ c ∧ Kd.C (Kd.slice ti (Kd.int .i64)) w B T.length T ∧ T.length ≤ e ∧ MeshOk L T := by
  obtain ⟨F⟩ := F
  obtain ⟨G⟩ := G
  have hl : F.length = 2 := by simpa using congrArg Array.size hF
  have hlG : G.length = 3 := by simpa using congrArg Array.size hG
  match F, hl, G, hlG with
  | [f0, f1], _, [g0, g1, g2], _ =>
    simp at hF hG
    obtain ⟨e0, e1⟩ := hF
    obtain ⟨e2, e3, e4⟩ := hG
    obtain ⟨v0, v1, y0, y1, n, rfl, _, _, t0, t1⟩ := Joins.open_agg2 hs hone hC hval h
    rw [e0] at t0
    rw [e1] at t1
    obtain ⟨A, c, L, hA, hc, hL, hCL, hok⟩ := op_rows k75 (fun x => x.f0 < 4294967296 ∧ x.f1 < 4294967296 ∧ x.f2 < 4294967296) hp hCv (fun n cs y hy => by
      obtain ⟨a, b, c, ha, hb, hc, rfl⟩ := op_vrow hv hf e2 e3 e4 honeG hCv hy
      exact ⟨⟨a, b, c⟩, k75_mk w ⟨a, b, c⟩, ha, hb, hc⟩) t0
    obtain ⟨B, e, T, hB, he, hT, hCT, hr⟩ := op_tris ht hts hti cs1 ci t1
    cases hA
    cases hB
    exact ⟨A, c, L, B, e, T, rfl, hCL, hc, hCT, he, ⟨hL, hT, hr, hok⟩⟩
end
end Go.Proofs.Ytlendjpmblapkaa
