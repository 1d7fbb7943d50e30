/-
  The proof's texts, one behind the other: XM1 XMmark XMrows XM2 XMlaw XMref XMcopy XMval XMheld XMans XMjoin0 XMmove0 XMapp2 XMgrid0 XMgrid XMgrids XMgridl XOpen.
-/
import Derived.Test.YtlendjpmblapkabFw
import Derived.Test.YtlendjpmblapkabPMeshx4
import Derived.Test.YtlendjpmblapkabPMeshx9
import Derived.Test.YtlendjpmblapkabPMeshx15
import Derived.Test.YtlendjpmblapkabPMeshx24
import Derived.Test.YtlendjpmblapkabPMeshx28
import Derived.Test.YtlendjpmblapkabPMeshx16
import Derived.Lib.Hide
import Derived.OwnWalk
import Derived.Test.YtlendjpmblapkabPMeshx18
import Derived.Test.YtlendjpmblapkabPMeshx29
import Derived.Test.YtlendjpmblapkabPMeshx23
import Derived.Deep.RegionHeld3
import Derived.Test.YtlendjpmblapkabPMeshx21
import Derived.Test.YtlendjpmblapkabG8
import Derived.Test.YtlendjpmblapkabPMeshx27
import Derived.Test.YtlendjpmblapkabPMeshx22
import Derived.Laws.Cover2
import Derived.ProofKit
import Derived.WalkKit
import Derived.OpenShut
import Derived.Lib.SmallJoins
namespace Go.Proofs.Ytlendjpmblapkab.Msh
open Fl Go.RowKit Go.Proofs.YtlendjpmblapkabW.PrintWords Go.Proofs.Ytlendjpmblapkab.PMesh
set_option linter.unusedVariables false
set_option linter.unusedSimpArgs false

theorem wrap_fit {x : Int} (h0 : -9223372036854775808 ≤ x) (h1 : x ≤ 9223372036854775807) : wrap64 x = x := by unfold wrap64; omega

theorem rdI (l : List Int) (i : Nat) (h : i < l.length) : rd l (i : Int) = l[i] := by
  unfold rd
  rw [Int.toNat_natCast, List.getD_eq_getElem?_getD, List.getElem?_eq_getElem h]; rfl
theorem rdL (l : List (List Int)) (i : Nat) (h : i < l.length) : rd_L3 l (i : Int) = l[i] := by
  unfold rd_L3
  rw [Int.toNat_natCast, List.getD_eq_getElem?_getD, List.getElem?_eq_getElem h]; rfl
theorem rdV (l : List S40) (i : Nat) (h : i < l.length) : rd_T40 l (i : Int) = l[i] := by
  unfold rd_T40
  rw [Int.toNat_natCast, List.getD_eq_getElem?_getD, List.getElem?_eq_getElem h]; rfl
theorem rdW (l : List S38) (i : Nat) (h : i < l.length) : rd_T38 l (i : Int) = l[i] := by
  unfold rd_T38
  rw [Int.toNat_natCast, List.getD_eq_getElem?_getD, List.getElem?_eq_getElem h]; rfl

theorem up (i : Nat) (h : i ≤ 9223372036854775806) : wrap64 ((i : Int) + 1) = ((i + 1 : Nat) : Int) := by rw [wrap_fit (by omega) (by omega)]; omega

/-! sizes -/
theorem sz_loop (T : List (List Int)) (hr : ∀ t ∈ T, t.length ≤ 9223372036854775807) (hT : T.length ≤ 1048576) (d : Nat) : ∀ (k i : Nat) (a : Int), i ≤ T.length → T.length - i = d → d < k → 0 ≤ a → a ≤ 1048576 →
    ∃ r, laws_szInt64SS.l0 k T a (i : Int) = some r ∧ r ≤ 1048576 ∧ (0 ≤ r → ∀ j, i ≤ j → (h : j < T.length) → T[j].length ≤ 1048576) := by
  induction d with
  | zero =>
    intro k i a hi hd hk h0 h1
    obtain ⟨k, rfl⟩ : ∃ j, k = j + 1 := ⟨k - 1, by omega⟩
    simp only [laws_szInt64SS.l0]
    rw [if_neg (by omega)]
    exact ⟨a, rfl, h1, fun _ j hij hj => by omega⟩
  | succ d ih =>
    intro k i a hi hd hk h0 h1
    obtain ⟨k, rfl⟩ : ∃ j, k = j + 1 := ⟨k - 1, by omega⟩
    have hlt : i < T.length := by omega
    have hl := hr T[i] (List.getElem_mem hlt)
    simp only [laws_szInt64SS.l0]
    rw [if_pos (by omega), if_pos (by omega), rdL T i hlt]
    unfold laws_szInt64S.f
    rw [wrap_fit (by omega) (by omega)]
    by_cases hneg : a - (T[i].length : Int) < 0
    · rw [if_pos hneg]
      simp only [Option.bind_some]
      rw [if_pos (by decide)]
      exact ⟨-1, rfl, by decide, fun h => by omega⟩
    · rw [if_neg hneg]
      simp only [Option.bind_some]
      rw [if_neg hneg, up i (by omega)]
      obtain ⟨r, e, hr1, h⟩ := ih k (i + 1) (a - (T[i].length : Int)) (by omega) (by omega) (by omega) (by omega) (by omega)
      refine ⟨r, e, hr1, fun h0 j hij hj => ?_⟩
      rcases Nat.lt_or_ge i j with hlt' | hge
      · exact h h0 j hlt' hj
      · obtain rfl : i = j := by omega
        omega

theorem szMesh_f (Pl : List S38) (T : List (List Int)) (hP : Pl.length ≤ 9223372036854775807) (hT : T.length ≤ 9223372036854775807) (hr : ∀ t ∈ T, t.length ≤ 9223372036854775807) (k : Nat) (hk : 1048577 < k) (a : Int) (ha : 0 ≤ a) (ha1 : a ≤ 1048576) :
    ∃ r, laws_szMesh.f k Pl T a = some r ∧ r ≤ 1048576 ∧ (0 ≤ r → Pl.length ≤ 1048576 ∧ T.length ≤ 1048576 ∧ ∀ t ∈ T, t.length ≤ 1048576) := by
  unfold laws_szMesh.f laws_szVectorS.f
  rw [wrap_fit (by omega) (by omega)]
  by_cases h1 : a - (Pl.length : Int) < 0
  · rw [if_pos h1]
    simp only [Option.bind_some]
    rw [if_pos (by decide)]
    exact ⟨-1, rfl, by decide, fun h => by omega⟩
  · rw [if_neg h1]
    simp only [Option.bind_some]
    rw [if_neg h1]
    unfold laws_szInt64SS.f
    rw [wrap_fit (by omega) (by omega)]
    by_cases h2 : a - (Pl.length : Int) - (T.length : Int) < 0
    · rw [if_pos h2]
      simp only [Option.bind_some]
      rw [if_pos (by decide)]
      exact ⟨-1, rfl, by decide, fun h => by omega⟩
    · rw [if_neg h2]
      obtain ⟨r, e, hr1, h⟩ := sz_loop T hr (by omega) T.length k 0 _ (by omega) (by omega) (by omega) (Int.not_lt.1 h2) (by omega)
      rw [show ((0 : Nat) : Int) = 0 from rfl] at e
      rw [e]
      simp only [Option.bind_some]
      by_cases h3 : r < 0
      · rw [if_pos h3]
        exact ⟨-1, rfl, by decide, fun h => by omega⟩
      · rw [if_neg h3]
        refine ⟨r, rfl, hr1, fun h0 => ⟨by omega, by omega, fun t ht => ?_⟩⟩
        obtain ⟨j, hj, rfl⟩ := List.getElem_of_mem ht
        exact h h0 j (by omega) hj

/-! copies -/
def toV (x : S38) : S40 := ⟨x.f0, x.f1, x.f2⟩

theorem toI_loop (l : List Int) (hl : l.length ≤ 1048576) (d : Nat) : ∀ (k i : Nat) (out : List Int), i ≤ l.length → l.length - i = d → d < k → out.length = l.length → (∀ j, j < i → out[j]? = l[j]?) → laws_toInt64S.l0 k l out (i : Int) = some l := by
  induction d with
  | zero =>
    intro k i out hi hd hk ho hj
    obtain ⟨k, rfl⟩ : ∃ j, k = j + 1 := ⟨k - 1, by omega⟩
    simp only [laws_toInt64S.l0]
    rw [if_neg (by omega)]
    congr 1
    apply List.ext_getElem?
    intro j
    rcases Nat.lt_or_ge j i with h | h
    · exact hj j h
    · rw [List.getElem?_eq_none (by omega), List.getElem?_eq_none (by omega)]
  | succ d ih =>
    intro k i out hi hd hk ho hj
    obtain ⟨k, rfl⟩ : ∃ j, k = j + 1 := ⟨k - 1, by omega⟩
    have hil : i < l.length := by omega
    simp only [laws_toInt64S.l0]
    rw [if_pos (by omega), if_pos (by omega), if_pos (by omega), rdI l i hil, up i (by omega), Int.toNat_natCast]
    refine ih k (i + 1) _ (by omega) (by omega) (by omega) (by rw [List.length_set]; exact ho) (fun j hji => ?_)
    by_cases e : j = i
    · subst e; rw [List.getElem?_set_self (by omega), List.getElem?_eq_getElem hil]
    · rw [List.getElem?_set_ne (by omega)]; exact hj j (by omega)

theorem toI_f (l : List Int) (hl : l.length ≤ 1048576) (k : Nat) (hk : 1048577 < k) : laws_toInt64S.f k l = some l := by
  unfold laws_toInt64S.f
  rw [if_pos (by omega), Int.toNat_natCast, if_pos (by omega)]
  exact toI_loop l hl l.length k 0 _ (by omega) (by omega) (by omega) (by simp) (fun j hj => absurd hj (Nat.not_lt_zero _))

theorem toT_loop (T : List (List Int)) (hl : T.length ≤ 1048576) (hr : ∀ t ∈ T, t.length ≤ 1048576) (d : Nat) : ∀ (k i : Nat) (out : List (List Int)), i ≤ T.length → T.length - i = d → d + 1048578 < k → out.length = T.length → (∀ j, j < i → out[j]? = T[j]?) → laws_toInt64SS.l0 k T out (i : Int) = some T := by
  induction d with
  | zero =>
    intro k i out hi hd hk ho hj
    obtain ⟨k, rfl⟩ : ∃ j, k = j + 1 := ⟨k - 1, by omega⟩
    simp only [laws_toInt64SS.l0]
    rw [if_neg (by omega)]
    congr 1
    apply List.ext_getElem?
    intro j
    rcases Nat.lt_or_ge j i with h | h
    · exact hj j h
    · rw [List.getElem?_eq_none (by omega), List.getElem?_eq_none (by omega)]
  | succ d ih =>
    intro k i out hi hd hk ho hj
    obtain ⟨k, rfl⟩ : ∃ j, k = j + 1 := ⟨k - 1, by omega⟩
    have hil : i < T.length := by omega
    simp only [laws_toInt64SS.l0]
    rw [if_pos (by omega), if_pos (by omega), rdL T i hil, toI_f _ (hr _ (List.getElem_mem hil)) k (by omega)]
    simp only [Option.bind_some]
    rw [if_pos (by omega), up i (by omega), Int.toNat_natCast]
    refine ih k (i + 1) _ (by omega) (by omega) (by omega) (by rw [List.length_set]; exact ho) (fun j hji => ?_)
    by_cases e : j = i
    · subst e; rw [List.getElem?_set_self (by omega), List.getElem?_eq_getElem hil]
    · rw [List.getElem?_set_ne (by omega)]; exact hj j (by omega)

theorem toP_loop (L : List S38) (hl : L.length ≤ 1048576) (d : Nat) : ∀ (k i : Nat) (out : List S40), i ≤ L.length → L.length - i = d → d < k → out.length = L.length → (∀ j, j < i → out[j]? = (L.map toV)[j]?) → laws_toVectorS.l0 k L out (i : Int) = some (L.map toV) := by
  induction d with
  | zero =>
    intro k i out hi hd hk ho hj
    obtain ⟨k, rfl⟩ : ∃ j, k = j + 1 := ⟨k - 1, by omega⟩
    simp only [laws_toVectorS.l0]
    rw [if_neg (by omega)]
    congr 1
    apply List.ext_getElem?
    intro j
    rcases Nat.lt_or_ge j i with h | h
    · exact hj j h
    · rw [List.getElem?_eq_none (by omega), List.getElem?_eq_none (by rw [List.length_map]; omega)]
  | succ d ih =>
    intro k i out hi hd hk ho hj
    obtain ⟨k, rfl⟩ : ∃ j, k = j + 1 := ⟨k - 1, by omega⟩
    have hil : i < L.length := by omega
    simp only [laws_toVectorS.l0]
    rw [if_pos (by omega), if_pos (by omega), rdW L i hil]
    unfold laws_toVector.f
    simp only [Option.bind_some]
    rw [if_pos (by omega), up i (by omega), Int.toNat_natCast]
    refine ih k (i + 1) _ (by omega) (by omega) (by omega) (by rw [List.length_set]; exact ho) (fun j hji => ?_)
    by_cases e : j = i
    · subst e; rw [List.getElem?_set_self (by omega), List.getElem?_map, List.getElem?_eq_getElem hil]; rfl
    · rw [List.getElem?_set_ne (by omega)]; exact hj j (by omega)

theorem toMesh_f (L : List S38) (T : List (List Int)) (hL : L.length ≤ 1048576) (hT : T.length ≤ 1048576) (hr : ∀ t ∈ T, t.length ≤ 1048576) (k : Nat) (hk : 2097155 < k) : laws_toMesh.f k L T = some (L.map toV, T) := by
  unfold laws_toMesh.f laws_toVectorS.f
  rw [if_pos (by omega), Int.toNat_natCast, if_pos (by omega)]
  have h1 := toP_loop L hL L.length k 0 (List.replicate L.length z40) (by omega) (by omega) (by omega) (by simp) (fun j hj => absurd hj (Nat.not_lt_zero _))
  rw [show ((0 : Nat) : Int) = 0 from rfl] at h1
  rw [h1]
  simp only [Option.bind_some]
  unfold laws_toInt64SS.f
  rw [if_pos (by omega), Int.toNat_natCast, if_pos (by omega)]
  have h2 := toT_loop T hT hr T.length k 0 (List.replicate T.length []) (by omega) (by omega) (by omega) (by simp) (fun j hj => absurd hj (Nat.not_lt_zero _))
  rw [show ((0 : Nat) : Int) = 0 from rfl] at h2
  rw [h2]
  rfl

/-! equal meshes -/
/-- A vector of floats below 2^32. -/
def okV (x : S40) : Prop := x.f0 < 4294967296 ∧ x.f1 < 4294967296 ∧ x.f2 < 4294967296
/-- Vectors with the same values. -/
def simV (x y : S40) : Prop := simF x.f0 y.f0 = true ∧ simF x.f1 y.f1 = true ∧ simF x.f2 y.f2 = true
theorem simV_self {x : S40} (h : okV x) : simV x x := ⟨simF_self h.1, simF_self h.2.1, simF_self h.2.2⟩
def simP (a b : List S40) : Prop := a.length = b.length ∧ ∀ (i : Nat) (ha : i < a.length) (hb : i < b.length), simV a[i] b[i]
theorem simP_self {a : List S40} (h : ∀ x ∈ a, okV x) : simP a a := ⟨rfl, fun i ha _ => simV_self (h _ (List.getElem_mem ha))⟩

theorem eqV_loop (a b : List S40) (hl : a.length ≤ 1048576) (h : simP a b) (d : Nat) : ∀ (k i : Nat), i ≤ a.length → a.length - i = d → d < k → laws_eqVectorS.l0 k a b (i : Int) = some true := by
  have hab := h.1
  induction d with
  | zero =>
    intro k i hi hd hk
    obtain ⟨k, rfl⟩ : ∃ j, k = j + 1 := ⟨k - 1, by omega⟩
    simp only [laws_eqVectorS.l0]
    rw [if_neg (by omega)]
  | succ d ih =>
    intro k i hi hd hk
    obtain ⟨k, rfl⟩ : ∃ j, k = j + 1 := ⟨k - 1, by omega⟩
    have hia : i < a.length := by omega
    have hib : i < b.length := by omega
    simp only [laws_eqVectorS.l0]
    rw [if_pos (by omega), if_pos (by omega), if_pos (by omega), rdV a i hia, rdV b i hib]
    unfold laws_eqVector.f
    have hs := h.2 i hia hib
    unfold simV at hs
    rw [if_pos hs]
    simp only [Option.bind_some]
    rw [if_pos trivial, up i (by omega)]
    exact ih k (i + 1) (by omega) (by omega) (by omega)

theorem eqI_loop (l : List Int) (hl : l.length ≤ 1048576) (d : Nat) : ∀ (k i : Nat), i ≤ l.length → l.length - i = d → d < k → laws_eqInt64S.l0 k l l (i : Int) = some true := by
  induction d with
  | zero =>
    intro k i hi hd hk
    obtain ⟨k, rfl⟩ : ∃ j, k = j + 1 := ⟨k - 1, by omega⟩
    simp only [laws_eqInt64S.l0]
    rw [if_neg (by omega)]
  | succ d ih =>
    intro k i hi hd hk
    obtain ⟨k, rfl⟩ : ∃ j, k = j + 1 := ⟨k - 1, by omega⟩
    simp only [laws_eqInt64S.l0]
    rw [if_pos (by omega), if_pos (by omega), if_pos (by omega), if_pos trivial, up i (by omega)]
    exact ih k (i + 1) (by omega) (by omega) (by omega)

theorem eqI_f (l : List Int) (hl : l.length ≤ 1048576) (k : Nat) (hk : 1048577 < k) : laws_eqInt64S.f k l l = some true := by
  unfold laws_eqInt64S.f
  rw [if_pos rfl]
  exact eqI_loop l hl l.length k 0 (by omega) (by omega) (by omega)

theorem eqT_loop (T : List (List Int)) (hl : T.length ≤ 1048576) (hr : ∀ t ∈ T, t.length ≤ 1048576) (d : Nat) : ∀ (k i : Nat), i ≤ T.length → T.length - i = d → d + 1048578 < k → laws_eqInt64SS.l0 k T T (i : Int) = some true := by
  induction d with
  | zero =>
    intro k i hi hd hk
    obtain ⟨k, rfl⟩ : ∃ j, k = j + 1 := ⟨k - 1, by omega⟩
    simp only [laws_eqInt64SS.l0]
    rw [if_neg (by omega)]
  | succ d ih =>
    intro k i hi hd hk
    obtain ⟨k, rfl⟩ : ∃ j, k = j + 1 := ⟨k - 1, by omega⟩
    have hil : i < T.length := by omega
    simp only [laws_eqInt64SS.l0]
    rw [if_pos (by omega), if_pos (by omega), if_pos (by omega), rdL T i hil, eqI_f _ (hr _ (List.getElem_mem hil)) k (by omega)]
    simp only [Option.bind_some]
    rw [if_pos trivial, up i (by omega)]
    exact ih k (i + 1) (by omega) (by omega) (by omega)

theorem eqMesh_f (a b : List S40) (T : List (List Int)) (h : simP a b) (hL : a.length ≤ 1048576) (hT : T.length ≤ 1048576) (hr : ∀ t ∈ T, t.length ≤ 1048576) (k : Nat) (hk : 2097155 < k) : laws_eqMesh.f k a T b T = some true := by
  unfold laws_eqMesh.f laws_eqVectorS.f
  have hab := h.1
  have h1 := eqV_loop a b hL h a.length k 0 (by omega) (by omega) (by omega)
  have h2 := eqT_loop T hT hr T.length k 0 (by omega) (by omega) (by omega)
  rw [show ((0 : Nat) : Int) = 0 from rfl] at h1 h2
  rw [if_pos (by omega), h1]
  simp only [Option.bind_some]
  rw [if_pos trivial]
  unfold laws_eqInt64SS.f
  rw [if_pos rfl, h2]
  rfl

/-! valid meshes -/
def inB (n : Nat) (p : Int) : Bool := decide (0 ≤ p ∧ p < (n : Int))
/-- A triangle of n places. -/
def triB (n : Nat) (t : List Int) : Bool := match t with
  | [a, b, c] => decide (a ≠ b) && decide (b ≠ c) && decide (a ≠ c) && inB n a && inB n b && inB n c
  | _ => false
def validB (n : Nat) (T : List (List Int)) : Bool := decide (n ≤ 64) && decide (T.length ≤ 128) && T.all (triB n)

theorem in_f (n : Nat) (hn : n ≤ 64) (p : Int) : spec_l00In.f p 0 (wrap64 ((n : Int) - 1)) = some (inB n p) := by
  unfold spec_l00In.f inB
  rw [wrap_fit (by omega) (by omega)]
  by_cases h : p ≥ 0
  · rw [if_pos h]; congr 1; rw [decide_eq_decide]; omega
  · rw [if_neg h]; congr 1; symm; rw [decide_eq_false_iff_not]; omega
theorem within_f (n : Nat) (hn : n ≤ 64) (p : Int) : impl_within.f p 0 (wrap64 ((n : Int) - 1)) = some (inB n p) := in_f n hn p

theorem tri3 {t : List Int} (h : t.length = 3) : ∃ a b c, t = [a, b, c] := by
  match t, h with
  | [a, b, c], _ => exact ⟨a, b, c, rfl⟩
theorem triB_len {n : Nat} {t : List Int} (h : triB n t = true) : t.length = 3 := by
  unfold triB at h
  split at h
  · rfl
  · cases h
theorem triB_not {n : Nat} {t : List Int} (h : ¬ t.length = 3) : triB n t = false := by
  cases e : triB n t
  · rfl
  · exact absurd (triB_len e) h

theorem rd3_0 (a b c : Int) : rd [a, b, c] 0 = a := rfl
theorem rd3_1 (a b c : Int) : rd [a, b, c] 1 = b := rfl
theorem rd3_2 (a b c : Int) : rd [a, b, c] 2 = c := rfl

theorem triB_rd (n : Nat) (t : List Int) (h : t.length = 3) : triB n t = (decide (rd t 0 ≠ rd t 1) && decide (rd t 1 ≠ rd t 2) && decide (rd t 0 ≠ rd t 2) && t.all (inB n)) := by
  obtain ⟨a, b, c, rfl⟩ := tri3 h
  rw [rd3_0, rd3_1, rd3_2]
  simp only [triB, List.all_cons, List.all_nil, Bool.and_true, Bool.and_assoc]

theorem triangle_f (n : Nat) (hn : n ≤ 64) (t : List Int) (k : Nat) (hk : 1 < k) : spec_l02Triangle.f k t (n : Int) = some (triB n t) := by
  obtain ⟨k, rfl⟩ : ∃ j, k = j + 1 := ⟨k - 1, by omega⟩
  unfold spec_l02Triangle.f
  by_cases h3 : t.length = 3
  · obtain ⟨a, b, c, rfl⟩ := tri3 h3
    simp only [spec_l02Triangle.j0, rd3_0, rd3_1, rd3_2, in_f n hn, Option.bind_some]
    simp only [triB, List.length_cons, List.length_nil]
    by_cases e1 : a = b <;> by_cases e2 : b = c <;> by_cases e3 : a = c <;> by_cases i1 : inB n a = true <;> by_cases i2 : inB n b = true <;> simp_all
  · rw [if_neg (by omega)]
    simp only [spec_l02Triangle.j0]
    rw [if_pos trivial, triB_not h3]

theorem is_loop (Q : List S40) (T : List (List Int)) (hn : Q.length ≤ 64) (hT : T.length ≤ 128) (d : Nat) : ∀ (k i : Nat), i ≤ T.length → T.length - i = d → d + 2 < k → spec_l02Is.l0 k (i : Int) Q T = some ((T.drop i).all (triB Q.length)) := by
  induction d with
  | zero =>
    intro k i hi hd hk
    obtain ⟨k, rfl⟩ : ∃ j, k = j + 1 := ⟨k - 1, by omega⟩
    simp only [spec_l02Is.l0]
    rw [if_neg (by omega), List.drop_of_length_le (by omega)]
    rfl
  | succ d ih =>
    intro k i hi hd hk
    obtain ⟨k, rfl⟩ : ∃ j, k = j + 1 := ⟨k - 1, by omega⟩
    have hil : i < T.length := by omega
    have e : T.drop i = T[i] :: T.drop (i + 1) := List.drop_eq_getElem_cons hil
    simp only [spec_l02Is.l0]
    rw [if_pos (by omega), if_pos (by omega), rdL T i hil, triangle_f _ hn _ k (by omega), e, List.all_cons]
    simp only [Option.bind_some]
    by_cases h : triB Q.length T[i] = true
    · rw [if_pos h, up i (by omega), ih k (i + 1) (by omega) (by omega) (by omega), h]; rfl
    · rw [if_neg h, Bool.eq_false_iff.2 h]; rfl

theorem is_f (Q : List S40) (T : List (List Int)) (k : Nat) (hk : 200 < k) : spec_l02Is.f k Q T = some (validB Q.length T) := by
  obtain ⟨k, rfl⟩ : ∃ j, k = j + 1 := ⟨k - 1, by omega⟩
  unfold spec_l02Is.f validB
  by_cases h1 : Q.length ≤ 64
  · rw [if_neg (by omega)]
    simp only [spec_l02Is.j0]
    by_cases h2 : T.length ≤ 128
    · rw [if_neg (by simp; omega)]
      have := is_loop Q T h1 h2 T.length k 0 (by omega) (by omega) (by omega)
      rw [show ((0 : Nat) : Int) = 0 from rfl] at this
      rw [this]
      simp [h1, h2]
    · rw [if_pos (by simp; omega)]
      simp [h2]
  · rw [if_pos (by omega)]
    simp only [spec_l02Is.j0]
    rw [if_pos trivial]
    simp [h1]

theorem vm_inner (T : List (List Int)) (n : Nat) (hn : n ≤ 64) (i : Nat) (t : List Int) (ht : t.length = 3) (d : Nat) : ∀ (k j : Nat), j ≤ 3 → 3 - j = d → d < k →
    ∃ k', k' + d + 1 = k ∧ impl_ValidMesh.l1 k (n : Int) T (T.length : Int) (i : Int) t (t.length : Int) (j : Int) = if (t.drop j).all (inB n) = true then impl_ValidMesh.l0 k' (n : Int) T (T.length : Int) (wrap64 ((i : Int) + 1)) else some false := by
  induction d with
  | zero =>
    intro k j hj hd hk
    obtain ⟨k, rfl⟩ : ∃ j, k = j + 1 := ⟨k - 1, by omega⟩
    refine ⟨k, by omega, ?_⟩
    simp only [impl_ValidMesh.l1]
    rw [if_neg (by omega), List.drop_of_length_le (by omega)]
    rfl
  | succ d ih =>
    intro k j hj hd hk
    obtain ⟨k, rfl⟩ : ∃ j, k = j + 1 := ⟨k - 1, by omega⟩
    have hjl : j < t.length := by omega
    obtain ⟨k', hk', h⟩ := ih k (j + 1) (by omega) (by omega) (by omega)
    refine ⟨k', by omega, ?_⟩
    have e : t.drop j = t[j] :: t.drop (j + 1) := List.drop_eq_getElem_cons hjl
    simp only [impl_ValidMesh.l1]
    rw [if_pos (by omega), if_pos (by omega), if_pos (by omega), rdI t j hjl, within_f n hn, e, List.all_cons]
    simp only [Option.bind_some]
    by_cases hb : inB n t[j] = true
    · rw [if_pos hb, up j (by omega), h, hb, Bool.true_and]
    · rw [if_neg hb, if_neg (by simp [hb])]

theorem vm_loop (n : Nat) (hn : n ≤ 64) (T : List (List Int)) (hT : T.length ≤ 128) (d : Nat) : ∀ (k i : Nat), i ≤ T.length → T.length - i = d → 10 * d + 5 < k → impl_ValidMesh.l0 k (n : Int) T (T.length : Int) (i : Int) = some ((T.drop i).all (triB n)) := by
  induction d with
  | zero =>
    intro k i hi hd hk
    obtain ⟨k, rfl⟩ : ∃ j, k = j + 1 := ⟨k - 1, by omega⟩
    simp only [impl_ValidMesh.l0]
    rw [if_neg (by omega), List.drop_of_length_le (by omega)]
    rfl
  | succ d ih =>
    intro k i hi hd hk
    obtain ⟨k, rfl⟩ : ∃ j, k = j + 2 := ⟨k - 2, by omega⟩
    have hil : i < T.length := by omega
    have e : T.drop i = T[i] :: T.drop (i + 1) := List.drop_eq_getElem_cons hil
    simp only [impl_ValidMesh.l0]
    rw [if_pos (by omega), if_pos (by omega), if_pos (by omega), rdL T i hil, e, List.all_cons]
    by_cases h3 : T[i].length = 3
    · rw [if_pos (by omega), if_pos (by omega), if_pos (by omega)]
      obtain ⟨k', hk', h1⟩ := vm_inner T n hn i T[i] h3 3 k 0 (by omega) (by omega) (by omega)
      have h0 := ih k' (i + 1) (by omega) (by omega) (by omega)
      rw [up i (by omega), h0, List.drop_zero] at h1
      rw [triB_rd n _ h3]
      generalize T[i] = t at *
      have h1' : impl_ValidMesh.l1 k (n : Int) T (T.length : Int) (i : Int) t (t.length : Int) 0 = if t.all (inB n) = true then some ((T.drop (i + 1)).all (triB n)) else some false := h1
      by_cases e1 : rd t 0 = rd t 1
      · rw [if_pos e1]
        simp [impl_ValidMesh.j2, e1]
      · rw [if_neg e1, if_pos (by omega)]
        by_cases e2 : rd t 1 = rd t 2
        · rw [if_pos e2]
          simp [impl_ValidMesh.j2, e2]
        · rw [if_neg e2]
          simp only [impl_ValidMesh.j2]
          by_cases e3 : rd t 0 = rd t 2
          · rw [if_pos (by simp [e3])]
            simp [e3]
          · rw [if_neg (by simp [e3]), h1']
            cases t.all (inB n) <;> simp [e1, e2, e3]
    · rw [if_neg (by omega)]
      simp only [impl_ValidMesh.j2]
      rw [if_pos trivial, triB_not h3]; rfl

theorem valid_f (Q : List S40) (T : List (List Int)) (k : Nat) (hk : 2000 < k) : impl_ValidMesh.f k Q T = some (validB Q.length T) := by
  obtain ⟨k, rfl⟩ : ∃ j, k = j + 1 := ⟨k - 1, by omega⟩
  unfold impl_ValidMesh.f validB
  by_cases h1 : Q.length ≤ 64
  · rw [if_neg (by omega)]
    simp only [impl_ValidMesh.j0]
    by_cases h2 : T.length ≤ 128
    · rw [if_neg (by simp; omega)]
      have := vm_loop Q.length h1 T h2 T.length k 0 (by omega) (by omega) (by omega)
      rw [show ((0 : Nat) : Int) = 0 from rfl] at this
      rw [this]
      simp [h1, h2]
    · rw [if_pos (by simp; omega)]
      simp [h2]
  · rw [if_pos (by omega)]
    simp only [impl_ValidMesh.j0]
    rw [if_pos trivial]
    simp [h1]
end Go.Proofs.Ytlendjpmblapkab.Msh
namespace Go.Proofs.Ytlendjpmblapkab
open Go.RowKit Go.Proofs.YtlendjpmblapkabW.PrintWords Go.Proofs.Ytlendjpmblapkab.PMesh Msh
set_option linter.unusedVariables false

/-- a, a + 1, .. -/
def marksA (a : Int) (n : Nat) : List Int := (List.range n).map fun t : Nat => a + (t : Int)
theorem marksA_len (a : Int) (n : Nat) : (marksA a n).length = n := by simp [marksA]
theorem marksA_get (a : Int) (n i : Nat) (h : i < (marksA a n).length) : (marksA a n)[i] = a + (i : Int) := by simp [marksA]

/-- The first i marked. -/
def partA (a : Int) (l : List Int) (i : Nat) : List Int := marksA a i ++ l.drop i
theorem partA_len (a : Int) (l : List Int) (i : Nat) (h : i ≤ l.length) : (partA a l i).length = l.length := by simp [partA, marksA]; omega
theorem partA_all (a : Int) (l : List Int) : partA a l l.length = marksA a l.length := by simp [partA]
theorem partA_set (a : Int) (l : List Int) (i : Nat) (h : i < l.length) : (partA a l i).set i (a + (i : Int)) = partA a l (i + 1) := by
  have e1 : marksA a (i + 1) = marksA a i ++ [a + (i : Int)] := by simp [marksA, List.range_succ]
  have e2 : l.drop i = l[i] :: l.drop (i + 1) := List.drop_eq_getElem_cons h
  have hm : (marksA a i).length = i := marksA_len a i
  unfold partA
  rw [e1, e2, List.set_append, if_neg (by omega), hm, Nat.sub_self, List.set_cons_zero, List.append_assoc]
  rfl

theorem mark_ints (v : Value) (l : List Int) (hl : l.length ≤ 1048576) (a : Int) (ha : 0 ≤ a) (ha1 : a ≤ 1152921504606846976) (w : World) (base : Nat) (h : w.ownsRow base 2 1 v l.length (encs (Value.int .i64) l)) :
    Calls Try.prog 62 #[v, .int .i64 a] w fun e w' => e = .returned (.int .i64 (a + (l.length : Int))) ∧ w'.ownsRow base 2 1 v l.length (encs (Value.int .i64) (marksA a l.length)) ∧ w.grownBy w' v.ownBlock := by
  by_cases h0 : l.length = 0
  · obtain rfl : l = [] := List.length_eq_zero_iff.1 h0
    obtain ⟨A, c, rfl⟩ := own_slice h
    have HO := Lib.hid h
    clear h h0 hl
    show Calls Try.prog 62 #[.slice A 0 c, .int .i64 a] w _
    go_enter Try.func62, Try.ntmps62
    go_wp2_with fail
    go_loopw [1, 5] (fun k i wr => wr = w ∧ k = .int .i64 a ∧ i = .int .i64 0) (fun _ _ _ => 0)
    case atStart => exact ⟨rfl, rfl, rfl⟩
    case round =>
      obtain ⟨rfl, rfl, rfl⟩ := hrel
      go_wp2_with fail
      go_ret
      exact ⟨by simp, HO.out, World.grownBy.refl _ _⟩
  · obtain ⟨g, c, rfl, hgb, hgl⟩ := h.form (by omega)
    have HO := Lib.hid h
    clear h
    go_enter Try.func62, Try.ntmps62
    go_wp2_with fail
    go_loopw [1, 5] (fun k i wr => ∃ j : Nat, j ≤ l.length ∧ k = .int .i64 (a + (j : Int)) ∧ i = .int .i64 (j : Int) ∧ Hid (wr.ownsRow base 2 1 (.slice (some ⟨g, 0, none⟩) l.length c) l.length (encs (Value.int .i64) (partA a l j))) ∧ w.grownBy wr (some g)) (fun _ i _ => l.length - (intOf i).toNat)
    case atStart => exact ⟨0, Nat.zero_le _, by simp, rfl, by exact HO.out, World.grownBy.refl _ _⟩
    case round =>
      obtain ⟨j, hj, rfl, rfl, hO, hg⟩ := hrel
      by_cases hlt : j < l.length
      · have b1 : (j : Int) < (l.length : Int) := by omega
        have b2 : (0 : Int) ≤ (j : Int) := by omega
        have b3 : (j : Int) < 1048576 := by omega
        obtain ⟨hcell, hfr⟩ := own_at_of (d := (0 : Int)) hO.out (j : Int) b2 b1
        obtain ⟨hst, hgs⟩ := own_store_of (enc := Value.int .i64) hO.out (j : Int) (a + (j : Int))
        rw [Int.toNat_natCast] at hcell hfr hst hgs
        rw [partA_set a l j hlt] at hst
        have HST := Lib.hid hst
        have HGS := Lib.hid hgs
        clear hst hgs
        go_wp2_with fail
        go_roundw
        case rel => exact ⟨j + 1, hlt, by first | rfl | (congr 1; omega) | (simp; omega), by simp, by exact HST.out, World.grownBy.trans hg HGS.out⟩
        case measure => simp [intOf]; omega
      · obtain rfl : j = l.length := by omega
        go_wp2_with fail
        go_ret
        refine ⟨rfl, ?_, hg⟩
        have := hO.out
        rw [partA_all] at this
        exact this

theorem held_loopA (a : Int) (ha : 0 ≤ a) (ha1 : a ≤ 1152921504606846976) (n : Nat) (hl : n ≤ 1048576) (d : Nat) : ∀ (k i : Nat), i ≤ n → n - i = d → d < k → laws_heldInt64S.l0 k (marksA a n) (a + (i : Int)) (i : Int) = some (a + (n : Int)) := by
  have hml := marksA_len a n
  induction d with
  | zero =>
    intro k i hi hd hk
    obtain ⟨k, rfl⟩ : ∃ j, k = j + 1 := ⟨k - 1, by omega⟩
    obtain rfl : i = n := by omega
    simp only [laws_heldInt64S.l0]
    rw [if_neg (by omega)]
  | succ d ih =>
    intro k i hi hd hk
    obtain ⟨k, rfl⟩ : ∃ j, k = j + 1 := ⟨k - 1, by omega⟩
    simp only [laws_heldInt64S.l0]
    rw [if_pos (by omega), if_pos (by omega), rdI _ i (by omega), marksA_get, if_pos (by omega), Msh.wrap_fit (by omega) (by omega), up i (by omega), show a + (i : Int) + 1 = a + ((i + 1 : Nat) : Int) by omega]
    exact ih k (i + 1) (by omega) (by omega) (by omega)

theorem held_fA (a : Int) (ha : 0 ≤ a) (ha1 : a ≤ 1152921504606846976) (n : Nat) (hl : n ≤ 1048576) : laws_heldInt64S.f 1048577 (marksA a n) a = some (a + (n : Int)) := by
  unfold laws_heldInt64S.f
  have := held_loopA a ha ha1 n hl n 1048577 0 (by omega) (by omega) (by omega)
  rw [show a + ((0 : Nat) : Int) = a by omega] at this
  exact this

/-- Blocks from a up to b. -/
def In (a b : Nat) (k : Nat) : Prop := a ≤ k ∧ k < b

/-- What was made from base on lies from base up to the world's size. -/
theorem R_in {α : Type} {d : Kd α} {e base : Nat} {w : World} {v : Value} {xs : List α} {ok : Nat → Prop} (h : d.R e w base ok v xs) : d.R e w base (In base w.heap.size) v xs := Kd.R_mono (Kd.R_bound h) (fun k hk => ⟨hk.2.1, hk.2.2.1⟩)
theorem S_in {α : Type} {d : Kd α} {e base : Nat} {w : World} {v : Value} {xs : List α} {ok : Nat → Prop} (h : Kd.S d e w base ok v xs) : Kd.S d e w base (In base w.heap.size) v xs := Kd.S_mono (Kd.S_bound h) (fun k hk => ⟨hk.2.1, hk.2.2.1⟩)

theorem In_off {a b c d : Nat} (h : b ≤ c ∨ d ≤ a) : ∀ k, In a b k → ¬ In c d k := fun k h1 h2 => by unfold In at h1 h2; omega

/-- A grown row of the range: what is not in the range stays. -/
theorem kept_grown {w w' : World} {a b : Nat} {row : Option Nat} (h : w.grownBy w' row) (hr : ∀ k, row = some k → In a b k) : Kept w w' (In a b) := ⟨h.size, fun i hi hn => h.block i hi (fun e => hn (hr i e.symm))⟩
end Go.Proofs.Ytlendjpmblapkab
namespace Go.Proofs.Ytlendjpmblapkab
open Go.RowKit Go.Proofs.YtlendjpmblapkabW.PrintWords Go.Proofs.Ytlendjpmblapkab.PMesh Msh
set_option linter.unusedVariables false

/-- How many numbers rows hold. -/
def tot : List (List Int) → Nat
  | [] => 0
  | t :: r => t.length + tot r
/-- Rows marked, from a on. -/
def marksT (a : Int) : List (List Int) → List (List Int)
  | [] => []
  | t :: r => marksA a t.length :: marksT (a + (t.length : Int)) r

theorem tot_append (x y : List (List Int)) : tot (x ++ y) = tot x + tot y := by
  induction x with
  | nil => simp [tot]
  | cons t r ih => simp [tot, ih]; omega
theorem marksT_append (x y : List (List Int)) : ∀ a, marksT a (x ++ y) = marksT a x ++ marksT (a + (tot x : Int)) y := by
  induction x with
  | nil => intro a; simp [tot, marksT]
  | cons t r ih =>
    intro a
    simp only [List.cons_append, marksT, tot, ih]
    congr 3
    omega
theorem marksT_len (x : List (List Int)) : ∀ a, (marksT a x).length = x.length := by
  induction x with
  | nil => intro a; rfl
  | cons t r ih => intro a; simp [marksT, ih]
theorem tot_le (T : List (List Int)) (hr : ∀ t ∈ T, t.length ≤ 1048576) : tot T ≤ T.length * 1048576 := by
  induction T with
  | nil => simp [tot]
  | cons t r ih =>
    have h1 := hr t List.mem_cons_self
    have h2 := ih (fun x hx => hr x (List.mem_cons_of_mem _ hx))
    simp only [tot, List.length_cons]
    omega
theorem tot_take (T : List (List Int)) (j : Nat) : tot (T.take j) ≤ tot T := by
  have := tot_append (T.take j) (T.drop j)
  rw [List.take_append_drop] at this
  omega

/-- The first j rows marked. -/
def partT (a : Int) (T : List (List Int)) (j : Nat) : List (List Int) := marksT a (T.take j) ++ T.drop j
theorem partT_zero (a : Int) (T : List (List Int)) : partT a T 0 = T := by simp [partT, marksT]
theorem partT_all (a : Int) (T : List (List Int)) : partT a T T.length = marksT a T := by simp [partT]
theorem partT_len (a : Int) (T : List (List Int)) (j : Nat) (h : j ≤ T.length) : (partT a T j).length = T.length := by simp [partT, marksT_len]; omega
theorem partT_get (a : Int) (T : List (List Int)) (j : Nat) (h : j < T.length) : (partT a T j).getD j [] = T[j] := by
  have hl : (marksT a (T.take j)).length = j := by rw [marksT_len, List.length_take]; omega
  unfold partT
  rw [List.getD_eq_getElem?_getD, List.getElem?_append_right (by omega), hl, Nat.sub_self, List.drop_eq_getElem_cons h]
  rfl
theorem partT_set (a : Int) (T : List (List Int)) (j : Nat) (h : j < T.length) : (partT a T j).set j (marksA (a + (tot (T.take j) : Int)) T[j].length) = partT a T (j + 1) := by
  have hl : (marksT a (T.take j)).length = j := by rw [marksT_len, List.length_take]; omega
  have e2 : T.drop j = T[j] :: T.drop (j + 1) := List.drop_eq_getElem_cons h
  unfold partT
  rw [List.take_succ_eq_append_getElem h, marksT_append, e2, List.set_append, if_neg (by omega), hl, Nat.sub_self, List.set_cons_zero, List.append_assoc]
  rfl
theorem tot_succ (T : List (List Int)) (j : Nat) (h : j < T.length) : tot (T.take (j + 1)) = tot (T.take j) + T[j].length := by
  rw [List.take_succ_eq_append_getElem h, tot_append]
  simp [tot]

set_option maxHeartbeats 1000000 in
set_option maxRecDepth 100000 in
theorem mark_rows (v : Value) (T : List (List Int)) (hT : T.length ≤ 1048576) (hr : ∀ t ∈ T, t.length ≤ 1048576) (a : Int) (ha : 0 ≤ a) (ha1 : a ≤ 17592186044416) (w : World) (base : Nat) (ok : Nat → Prop) (b0 : Nat) (w0 : World) (K : Below b0 w0 w) (hb0 : b0 ≤ base) (hbw : b0 ≤ w.heap.size)
    (h : Kd.S (Kd.slice 2 (Kd.int .i64)) 56 w base ok v T) :
    Calls Try.prog 38 #[v, .int .i64 a] w fun e w' => e = .returned (.int .i64 (a + (tot T : Int))) ∧ Kd.S (Kd.slice 2 (Kd.int .i64)) 56 w' base ok v (marksT a T) ∧ Kept w w' ok ∧ Below b0 w0 w' := by
  have htot := tot_le T hr
  have htot2 : T.length * 1048576 ≤ 1099511627776 := by omega
  by_cases h0 : T.length = 0
  · obtain rfl : T = [] := List.length_eq_zero_iff.1 h0
    obtain ⟨A, c, rfl⟩ := Kd.S_slice h
    have HS := Lib.hid h
    have HK := Lib.hid K
    clear h h0 hT hr K htot htot2
    show Calls Try.prog 38 #[.slice A 0 c, .int .i64 a] w _
    go_enter Try.func38, Try.ntmps38
    go_wp2_with fail
    go_loopw [1, 5] (fun k i wr => wr = w ∧ k = .int .i64 a ∧ i = .int .i64 0) (fun _ _ _ => 0)
    case atStart => exact ⟨rfl, rfl, rfl⟩
    case round =>
      obtain ⟨rfl, rfl, rfl⟩ := hrel
      go_wp2_with fail
      go_ret
      exact ⟨by simp [tot], HS.out, Kept.refl _ _, HK.out⟩
  · obtain ⟨g, c, rfl, hgb, hgl, _⟩ := Kd.S_form h (by omega)
    have HS := Lib.hid h
    have HK := Lib.hid K
    have HR := Lib.hid hr
    clear h K hr hgb hgl
    go_enter Try.func38, Try.ntmps38
    go_wp2_with fail
    go_loopw [1, 5] (fun k i wr => ∃ (j : Nat) (q : Int), j ≤ T.length ∧ k = .int .i64 q ∧ Hid (q = a + (tot (T.take j) : Int)) ∧ i = .int .i64 (j : Int) ∧ Hid (Kd.S (Kd.slice 2 (Kd.int .i64)) 56 wr base ok (.slice (some ⟨g, 0, none⟩) T.length c) (partT a T j)) ∧ Hid (Kept w wr ok) ∧ Hid (Below b0 w0 wr)) (fun _ i _ => T.length - (intOf i).toNat)
    case atStart => exact ⟨0, a, Nat.zero_le _, rfl, by exact Lib.hid (by simp [tot]), rfl, by rw [partT_zero]; exact HS, Lib.hid (Kept.refl _ _), HK⟩
    case round =>
      obtain ⟨j, q, hj, rfl, hq, rfl, hS, hKe, hB⟩ := hrel
      by_cases hlt : j < T.length
      · have b1 : (j : Int) < (T.length : Int) := by omega
        have b2 : (0 : Int) ≤ (j : Int) := by omega
        have b3 : (j : Int) < 1048576 := by omega
        obtain ⟨oki, cc, hcl, hM, hcc, hoki, hbk⟩ := Kd.S_borrow hS.out [] (j : Int) b2 (by omega)
        rw [Int.toNat_natCast, partT_get a T j hlt] at hM
        rw [Int.toNat_natCast] at hcc hbk
        obtain ⟨vi, rfl, hR⟩ := hM
        have hcell := hcc 0 _ rfl
        rw [show (Kd.slice 2 (Kd.int .i64)).sz = 1 from rfl, Nat.mul_one, Nat.add_zero, add_at, Nat.zero_add] at hcell
        obtain ⟨Ai, ci, rfl⟩ := Kd.R_slice hR
        have hlen := HR.out T[j] (List.getElem_mem hlt)
        have htk := tot_take T j
        have hq0 := hq.out
        have hqb : 0 ≤ q ∧ q ≤ 35184372088832 := by omega
        have hqs : q + (T[j].length : Int) = a + (tot (T.take (j + 1)) : Int) := by rw [tot_succ T j hlt]; omega
        have hstep : ∀ (w2 : World), w2.ownsRow base 2 1 (.slice Ai T[j].length ci) T[j].length (encs (Value.int .i64) (marksA q T[j].length)) → wr.grownBy w2 (Value.slice Ai T[j].length ci).ownBlock → Kd.S (Kd.slice 2 (Kd.int .i64)) 56 w2 base ok (.slice (some ⟨g, 0, none⟩) T.length c) (partT a T (j + 1)) ∧ Kept w w2 ok ∧ Below b0 w0 w2 := by
          intro w2 ho hg
          have hin : ∀ k, (Value.slice Ai T[j].length ci).ownBlock = some k → oki k := fun k hk => hR.1 k hk
          refine ⟨?_, Kept.of_grown hg hKe.out (fun k hk => .inl (hoki k (hin k hk)).1), Below.grown hB.out hg (Nat.le_trans hbw hKe.out.1) (fun k hk => Nat.le_trans hb0 (own_base (Kd.own_of_R hR) k hk))⟩
          have := hbk (x' := marksA q T[j].length) hg hin ⟨_, rfl, Kd.R_of_own (by rw [marksA_len]; exact ho) hin⟩
          rw [hq0, partT_set a T j hlt] at this
          exact this
        have HST := Lib.hid hstep
        have HRR := Lib.hid (Kd.own_of_R hR)
        have HQS := Lib.hid hqs
        have hl1 : T[j].length ≤ 1048576 := hlen
        clear hstep hR hcc hbk hq0 hqs hoki hcl hlen htk hq htot htot2 hT ha ha1
        obtain ⟨hq1, hq2⟩ := hqb
        generalize T[j] = t at *
        go_wp2_with (first | (go_at_call 62; refine (mark_ints _ t hl1 q hq1 (by omega) _ base HRR.out).mono ?_; rintro e w2 ⟨rfl, ho, hg⟩; have HN := Lib.hid (HST.out w2 ho hg); clear ho hg) | fail)
        go_roundw
        case rel => exact ⟨j + 1, q + (t.length : Int), hlt, rfl, HQS, by simp, Lib.hid HN.out.1, Lib.hid HN.out.2.1, Lib.hid HN.out.2.2⟩
        case measure => simp [intOf]; omega
      · obtain rfl : j = T.length := by omega
        have hfin := hS.out
        rw [partT_all] at hfin
        have hqf := hq.out
        rw [List.take_length] at hqf
        have HF := Lib.hid hfin
        have HQ := Lib.hid hqf
        clear hfin hqf hS hq
        go_wp2_with fail
        go_ret
        exact ⟨by rw [HQ.out]; rfl, HF.out, hKe.out, hB.out⟩

end Go.Proofs.Ytlendjpmblapkab
namespace Go.Proofs.Ytlendjpmblapkab.Msh
open Fl Go.RowKit Go.Proofs.YtlendjpmblapkabW.PrintWords Go.Proofs.Ytlendjpmblapkab.PMesh
set_option linter.unusedVariables false

/-- What is known of a mesh that comes in. -/
structure MeshOk (L : List S38) (T : List (List Int)) : Prop where
  lp : L.length ≤ 9223372036854775807
  lt : T.length ≤ 9223372036854775807
  lr : ∀ t ∈ T, t.length ≤ 9223372036854775807
  fl : ∀ x ∈ L, x.f0 < 4294967296 ∧ x.f1 < 4294967296 ∧ x.f2 < 4294967296

theorem map_ok {L : List S38} (h : ∀ x ∈ L, x.f0 < 4294967296 ∧ x.f1 < 4294967296 ∧ x.f2 < 4294967296) : ∀ x ∈ L.map toV, okV x := by
  intro x hx
  obtain ⟨y, hy, rfl⟩ := List.mem_map.1 hx
  exact h y hy

end Go.Proofs.Ytlendjpmblapkab.Msh
namespace Go.Proofs.Ytlendjpmblapkab
open Go.RowKit Go.Proofs.YtlendjpmblapkabW.PrintWords Go.Proofs.Ytlendjpmblapkab.PMesh Msh

end Go.Proofs.Ytlendjpmblapkab
namespace Go.Proofs.Ytlendjpmblapkab
open Go.RowKit Go.Proofs.YtlendjpmblapkabW.PrintWords Go.Proofs.Ytlendjpmblapkab.PMesh Msh
set_option linter.unusedVariables false

/-- A mesh of the call's own, its blocks from a up to b. -/
def OwnM (w : World) (a b : Nat) (vP vT : Value) (P : List S40) (T : List (List Int)) : Prop :=
  Kd.R k40 40 w a (In a b) vP P ∧ Kd.S (Kd.slice 2 (Kd.int .i64)) 56 w a (In a b) vT T
/-- A row of numbers of the call's own. -/
def OwnI (w : World) (a b : Nat) (v : Value) (l : List Int) : Prop := Kd.R (Kd.int .i64) 2 w a (In a b) v l
/-- A mesh that came in, as it can be read from w on. -/
def CameM (w : World) (A : Option Addr) (c : Nat) (L : List S38) (B : Option Addr) (e : Nat) (T : List (List Int)) : Prop :=
  Kd.C k38 w A L.length L ∧ L.length ≤ c ∧ Kd.C (Kd.slice 2 (Kd.int .i64)) w B T.length T ∧ T.length ≤ e

section
variable {w w' w0 : World} {a b c d b0 : Nat} {v vP vT : Value} {P : List S40} {T : List (List Int)} {l : List Int}
theorem OwnM.below (h : OwnM w a b vP vT P T) (hb : Below w.heap.size w w') : OwnM w' a b vP vT P T := ⟨Kd.R_below h.1 hb, Kd.S_below h.2 hb⟩
theorem OwnM.drawn (h : OwnM w a b vP vT P T) (hd : Drawn0 w w') : OwnM w' a b vP vT P T := h.below hd.below
theorem OwnM.kept (h : OwnM w a b vP vT P T) (hk : Kept w w' (In c d)) (ho : b ≤ c ∨ d ≤ a) : OwnM w' a b vP vT P T := ⟨Kd.R_kept h.1 hk (In_off ho), Kd.S_kept h.2 hk (In_off ho)⟩
theorem OwnI.below (h : OwnI w a b v l) (hb : Below w.heap.size w w') : OwnI w' a b v l := Kd.R_below h hb
theorem OwnI.drawn (h : OwnI w a b v l) (hd : Drawn0 w w') : OwnI w' a b v l := h.below hd.below
theorem OwnI.kept (h : OwnI w a b v l) (hk : Kept w w' (In c d)) (ho : b ≤ c ∨ d ≤ a) : OwnI w' a b v l := Kd.R_kept h hk (In_off ho)
theorem OwnM.C {A B : Option Addr} {n m e f : Nat} (h : OwnM w a b (.slice A n e) (.slice B m f) P T) : Kd.C k40 w A P.length P ∧ P.length ≤ e ∧ Kd.C (Kd.slice 2 (Kd.int .i64)) w B T.length T ∧ T.length ≤ f := by
  obtain ⟨h1, h2, h3⟩ := Kd.R_reads' h.1
  obtain ⟨h4, h5, h6⟩ := Kd.S_reads' h.2
  exact ⟨h3, by omega, h6, by omega⟩
theorem OwnI.C {A : Option Addr} {n e : Nat} (h : OwnI w a b (.slice A n e) l) : Kd.C (Kd.int .i64) w A l.length l ∧ l.length ≤ e := by
  obtain ⟨h1, h2, h3⟩ := Kd.R_reads' h
  exact ⟨h3, by omega⟩
theorem CameM.below {A B : Option Addr} {c e : Nat} {L : List S38} (h : CameM w A c L B e T) (hb : Below w.heap.size w w') : CameM w' A c L B e T := ⟨Kd.C_below h.1 hb, h.2.1, Kd.C_below h.2.2.1 hb, h.2.2.2⟩
theorem Drawn0.sized (h : Drawn0 w w') : w'.heap.size = w.heap.size := by obtain ⟨m, rfl⟩ := h; rfl
theorem below_then (h : Below b0 w0 w) (hb : Below w.heap.size w w') (hw : b0 ≤ w.heap.size) : Below b0 w0 w' := h.trans (hb.mono hw)
end

/-- A variable that holds a mesh: its block. -/
def BoxAt (W : World) (g : Nat) (t : TypeId) (u v : Value) : Prop := W.heap[g]? = some (.cells #[u, v] t (0, 0))
section
variable {W W' : World} {g c d : Nat} {t : TypeId} {u v : Value}
theorem BoxAt.below (h : BoxAt W g t u v) (hb : Below W.heap.size W W') : BoxAt W' g t u v := (hb.block g (blk_lt h)).trans h
theorem BoxAt.drawn (h : BoxAt W g t u v) (hd : Drawn0 W W') : BoxAt W' g t u v := h.below hd.below
theorem BoxAt.kept (h : BoxAt W g t u v) (hk : Kept W W' (In c d)) (ho : g < c ∨ d ≤ g) : BoxAt W' g t u v := blk_kept h hk (fun hi => by unfold In at hi; omega)
theorem BoxAt.new (W : World) (t : TypeId) (u v : Value) : BoxAt (W.alloc (.cells #[u, v] t)) W.heap.size t u v := heap_alloc_new W _
theorem BoxAt.c0 (h : BoxAt W g t u v) : W.cell? ⟨g, 0, none⟩ = some u := (blk_cell h 0).trans rfl
theorem BoxAt.c1 (h : BoxAt W g t u v) : W.cell? ⟨g, 1, none⟩ = some v := (blk_cell h 1).trans rfl
theorem BoxAt.lt (h : BoxAt W g t u v) : g < W.heap.size := blk_lt h
theorem keep4 {g1 g2 : Nat} {t1 t2 : TypeId} {u1 v1 u2 v2 : Value} {R : World → Prop} (hR : ∀ W W', R W → Below W.heap.size W W' → R W') (hb : Below W.heap.size W W')
    (h : W.cell? ⟨g1, 0, none⟩ = some u1 ∧ W.cell? ⟨g1, 1, none⟩ = some v1 ∧ W.cell? ⟨g2, 0, none⟩ = some u2 ∧ W.cell? ⟨g2, 1, none⟩ = some v2 ∧ BoxAt W g1 t1 u1 v1 ∧ BoxAt W g2 t2 u2 v2 ∧ R W) :
    W'.cell? ⟨g1, 0, none⟩ = some u1 ∧ W'.cell? ⟨g1, 1, none⟩ = some v1 ∧ W'.cell? ⟨g2, 0, none⟩ = some u2 ∧ W'.cell? ⟨g2, 1, none⟩ = some v2 ∧ BoxAt W' g1 t1 u1 v1 ∧ BoxAt W' g2 t2 u2 v2 ∧ R W' := by
  obtain ⟨_, _, _, _, b1, b2, r⟩ := h
  have c1 := b1.below hb
  have c2 := b2.below hb
  exact ⟨c1.c0, c1.c1, c2.c0, c2.c1, c1, c2, hR _ _ r hb⟩
theorem keep4d {g1 g2 : Nat} {t1 t2 : TypeId} {u1 v1 u2 v2 : Value} {R : World → Prop} (hR : ∀ W W', R W → Below W.heap.size W W' → R W')
    (h : W.cell? ⟨g1, 0, none⟩ = some u1 ∧ W.cell? ⟨g1, 1, none⟩ = some v1 ∧ W.cell? ⟨g2, 0, none⟩ = some u2 ∧ W.cell? ⟨g2, 1, none⟩ = some v2 ∧ BoxAt W g1 t1 u1 v1 ∧ BoxAt W g2 t2 u2 v2 ∧ R W) :
    W.drew.cell? ⟨g1, 0, none⟩ = some u1 ∧ W.drew.cell? ⟨g1, 1, none⟩ = some v1 ∧ W.drew.cell? ⟨g2, 0, none⟩ = some u2 ∧ W.drew.cell? ⟨g2, 1, none⟩ = some v2 ∧ BoxAt W.drew g1 t1 u1 v1 ∧ BoxAt W.drew g2 t2 u2 v2 ∧ R W.drew := keep4 hR (Below.drew (Below.refl _ _)) h
theorem rest4 {g1 g2 : Nat} {t1 t2 : TypeId} {u1 v1 u2 v2 : Value} {R : World → Prop}
    (h : W.cell? ⟨g1, 0, none⟩ = some u1 ∧ W.cell? ⟨g1, 1, none⟩ = some v1 ∧ W.cell? ⟨g2, 0, none⟩ = some u2 ∧ W.cell? ⟨g2, 1, none⟩ = some v2 ∧ BoxAt W g1 t1 u1 v1 ∧ BoxAt W g2 t2 u2 v2 ∧ R W) : R W := h.2.2.2.2.2.2
end

/-- Small meshes: what the laws' bound on sizes leaves. -/
def SmallM (L : List S38) (T : List (List Int)) : Prop := L.length ≤ 1048576 ∧ T.length ≤ 1048576 ∧ (∀ t ∈ T, t.length ≤ 1048576)

theorem sz_step (w W : World) (A : Option Addr) (c : Nat) (L : List S38) (B : Option Addr) (e : Nat) (T : List (List Int)) (h : CameM w A c L B e T) (ok : MeshOk L T) (a : Int) (ha : 0 ≤ a) (ha1 : a ≤ 1048576) :
    ∃ r : Int, (0 ≤ r → SmallM L T) ∧ r ≤ 1048576 ∧ ∀ W, Below w.heap.size w W → Calls Try.prog 9 #[.agg #[.slice A L.length c, .slice B T.length e], .int .i64 a] W fun e w' => e = .returned (.int .i64 r) ∧ Below W.heap.size W w' := by
  obtain ⟨r, hr, hr1, hs⟩ := szMesh_f L T ok.lp ok.lt ok.lr 1048578 (by omega) a ha ha1
  refine ⟨r, fun h0 => hs h0, hr1, fun W hb => ?_⟩
  have h' := h.below hb
  exact laws_szMesh.calls 1048578 A c L B e T a r W h'.1 h'.2.1 h'.2.2.1 h'.2.2.2 hr

theorem to_step (w : World) (A : Option Addr) (c : Nat) (L : List S38) (B : Option Addr) (e : Nat) (T : List (List Int)) (h : CameM w A c L B e T) (hs : SmallM L T) (P : List S40) (hP : P = L.map toV) :
    ∀ W, Below w.heap.size w W → Calls Try.prog 11 #[.agg #[.slice A L.length c, .slice B T.length e]] W fun E w' => ∃ A' c' B' e', E = .returned (.agg #[.slice A' P.length c', .slice B' T.length e']) ∧ OwnM w' W.heap.size w'.heap.size (.slice A' P.length c') (.slice B' T.length e') P T ∧ Below W.heap.size W w' ∧ Below w.heap.size w w' := by
  intro W hb
  have h' := h.below hb
  have hf := toMesh_f L T hs.1 hs.2.1 hs.2.2 2097156 (by omega)
  rw [← hP] at hf
  refine (laws_toMesh.calls 2097156 A c L B e T P T W h'.1 h'.2.1 h'.2.2.1 h'.2.2.2 hf).mono ?_
  rintro E w' ⟨v0, v1, rfl, hR, hS, hbw⟩
  obtain ⟨A', c', rfl⟩ := Kd.R_slice hR
  obtain ⟨B', e', rfl⟩ := Kd.S_slice hS
  exact ⟨A', c', B', e', rfl, ⟨R_in hR, S_in hS⟩, hbw, below_then hb hbw hb.size⟩

theorem eq_step (P P' : List S40) (T : List (List Int)) (hp : simP P P') (h1 : P.length ≤ 1048576) (h2 : T.length ≤ 1048576) (h3 : ∀ t ∈ T, t.length ≤ 1048576) (W : World) (A A' B B' : Option Addr) (n n' c c' m m' e e' a b a' b' : Nat)
    (x : OwnM W a b (.slice A P.length c) (.slice B T.length e) P T) (y : OwnM W a' b' (.slice A' P'.length c') (.slice B' T.length e') P' T) :
    Calls Try.prog 13 #[.agg #[.slice A P.length c, .slice B T.length e], .agg #[.slice A' P'.length c', .slice B' T.length e']] W fun E w' => E = .returned (.bool true) ∧ Below W.heap.size W w' :=
  laws_eqMesh.calls 2097156 A c P B e T A' c' P' B' e' T true W x.C.1 x.C.2.1 x.C.2.2.1 x.C.2.2.2 y.C.1 y.C.2.1 y.C.2.2.1 y.C.2.2.2 (eqMesh_f P P' T hp h1 h2 h3 _ (by omega))

theorem eqI_step (l : List Int) (h1 : l.length ≤ 1048576) (W : World) (A A' : Option Addr) (c c' a b a' b' : Nat) (x : OwnI W a b (.slice A l.length c) l) (y : OwnI W a' b' (.slice A' l.length c') l) :
    Calls Try.prog 61 #[.slice A l.length c, .slice A' l.length c'] W fun E w' => E = .returned (.bool true) ∧ Drawn0 W w' :=
  laws_eqInt64S.calls 1048578 A c l A' c' l true W x.C.1 x.C.2 y.C.1 y.C.2 (eqI_f l h1 _ (by omega))

theorem markI_step (l : List Int) (h1 : l.length ≤ 1048576) (q : Int) (hq : 0 ≤ q) (hq1 : q ≤ 1099511627776) (W : World) (A : Option Addr) (c a b : Nat) (x : OwnI W a b (.slice A l.length c) l) (b0 : Nat) (w0 : World) (K : Below b0 w0 W) (hb0 : b0 ≤ a) (hbw : b0 ≤ W.heap.size) :
    Calls Try.prog 62 #[.slice A l.length c, .int .i64 q] W fun E w' => E = .returned (.int .i64 (q + (l.length : Int))) ∧ OwnI w' a b (.slice A l.length c) (marksA q l.length) ∧ Kept W w' (In a b) ∧ Below b0 w0 w' := by
  refine (mark_ints _ l h1 q hq (by omega) W a (Kd.own_of_R x)).mono ?_
  rintro E w' ⟨rfl, ho, hg⟩
  exact ⟨rfl, Kd.R_of_own (by rw [marksA_len]; exact ho) (fun k hk => x.1 k hk), kept_grown hg (fun k hk => x.1 k hk), Below.grown K hg hbw (fun k hk => Nat.le_trans hb0 (x.1 k hk).1)⟩

theorem heldI_step (n : Nat) (h1 : n ≤ 1048576) (q : Int) (hq : 0 ≤ q) (hq1 : q ≤ 1099511627776) (W : World) (A : Option Addr) (c a b : Nat) (x : OwnI W a b (.slice A n c) (marksA q n)) :
    Calls Try.prog 63 #[.slice A n c, .int .i64 q] W fun E w' => E = .returned (.int .i64 (q + (n : Int))) ∧ Drawn0 W w' := by
  have hl := marksA_len q n
  have h := laws_heldInt64S.calls 1048577 A c (marksA q n) q (q + (n : Int)) W x.C.1 x.C.2 (held_fA q hq (by omega) n h1)
  rw [hl] at h
  exact h

theorem own_rebase {w : World} {base base' : Nat} {e : TypeId} {size n : Nat} {v : Value} {xs : List Value} (h : w.ownsRow base e size v n xs) (hb : ∀ k, v.ownBlock = some k → base' ≤ k) : w.ownsRow base' e size v n xs := by
  obtain ⟨h1, h2⟩ := h
  refine ⟨h1, ?_⟩
  rcases h2 with h2 | ⟨g, cap, cur, rfl, hg, r⟩
  · exact .inl h2
  · exact .inr ⟨g, cap, cur, rfl, hb g rfl, r⟩

/-- A vector of three marks. -/
def mkV (q : Int) : S40 := ⟨floatOfInt .f32 q, floatOfInt .f32 (q + 1), floatOfInt .f32 (q + 2)⟩
def marksV (q : Int) (n : Nat) : List S40 := (List.range n).map fun t : Nat => mkV (q + 3 * (t : Int))
theorem marksV_len (q : Int) (n : Nat) : (marksV q n).length = n := by simp [marksV]
theorem marksV_get (q : Int) (n i : Nat) (h : i < (marksV q n).length) : (marksV q n)[i] = mkV (q + 3 * (i : Int)) := by simp [marksV]
def partV (q : Int) (l : List S40) (i : Nat) : List S40 := marksV q i ++ l.drop i
theorem partV_len (q : Int) (l : List S40) (i : Nat) (h : i ≤ l.length) : (partV q l i).length = l.length := by simp [partV, marksV_len]; omega
theorem partV_all (q : Int) (l : List S40) : partV q l l.length = marksV q l.length := by simp [partV]
theorem partV_set (q : Int) (l : List S40) (i : Nat) (h : i < l.length) : (partV q l i).set i (mkV (q + 3 * (i : Int))) = partV q l (i + 1) := by
  have e1 : marksV q (i + 1) = marksV q i ++ [mkV (q + 3 * (i : Int))] := by simp [marksV, List.range_succ]
  have e2 : l.drop i = l[i] :: l.drop (i + 1) := List.drop_eq_getElem_cons h
  have hm : (marksV q i).length = i := marksV_len q i
  unfold partV
  rw [e1, e2, List.set_append, if_neg (by omega), hm, Nat.sub_self, List.set_cons_zero, List.append_assoc]
  rfl
theorem rd_set (Q : List S40) (i : Nat) (h : i < Q.length) (x : S40) : rd_T40 (Q.set i x) (i : Int) = x := by
  rw [rdV _ _ (by rw [List.length_set]; exact h), List.getElem_set_self]

theorem markV_loop (P : List S40) (q : Int) (h0 : 0 ≤ q) (hq : q ≤ 8796093022208) (hP : P.length ≤ 1048576) (d : Nat) : ∀ (k i : Nat), i ≤ P.length → P.length - i = d → d < k → laws_markVectorS.l0 k (partV q P i) (q + 3 * (i : Int)) (i : Int) = some (q + 3 * (P.length : Int), marksV q P.length) := by
  induction d with
  | zero =>
    intro k i hi hd hk
    obtain ⟨k, rfl⟩ : ∃ j, k = j + 1 := ⟨k - 1, by omega⟩
    have hl := partV_len q P i hi
    obtain rfl : i = P.length := by omega
    simp only [laws_markVectorS.l0]
    rw [if_neg (by omega), partV_all]
  | succ d ih =>
    intro k i hi hd hk
    obtain ⟨k, rfl⟩ : ∃ j, k = j + 1 := ⟨k - 1, by omega⟩
    have hl := partV_len q P i hi
    have hil : i < (partV q P i).length := by omega
    simp only [laws_markVectorS.l0]
    rw [if_pos (by omega), if_pos (by omega)]
    simp only [Option.bind_some]
    rw [Msh.wrap_fit (x := q + 3 * (i : Int) + 1) (by omega) (by omega), Msh.wrap_fit (x := q + 3 * (i : Int) + 1 + 1) (by omega) (by omega), Msh.wrap_fit (x := q + 3 * (i : Int) + 1 + 1 + 1) (by omega) (by omega), up i (by omega), Int.toNat_natCast]
    simp only [List.set_set, rd_set _ _ hil]
    have e := ih k (i + 1) (by omega) (by omega) (by omega)
    rw [← partV_set q P i (by omega)] at e
    rw [show q + 3 * (i : Int) + 1 + 1 + 1 = q + 3 * ((i + 1 : Nat) : Int) by omega, show q + 3 * (i : Int) + 1 + 1 = q + 3 * (i : Int) + 2 by omega]
    exact e

theorem markV_step (P : List S40) (h1 : P.length ≤ 1048576) (q : Int) (hq : 0 ≤ q) (hq1 : q ≤ 8796093022208) (W : World) (v : Value) (a b : Nat) (x : Kd.R k40 40 W a (In a b) v P) (w0 : World) (K : Below w0.heap.size w0 W) (hb0 : w0.heap.size ≤ a) :
    Calls Try.prog 37 #[v, .int .i64 q] W fun E w' => E = .returned (.int .i64 (q + 3 * (P.length : Int))) ∧ Kd.R k40 40 w' a (In a b) v (marksV q P.length) ∧ Kept W w' (fun k => some k = v.ownBlock) ∧ Below w0.heap.size w0 w' := by
  have hf := markV_loop P q hq hq1 h1 P.length 1048577 0 (by omega) (by omega) (by omega)
  rw [show q + 3 * ((0 : Nat) : Int) = q by omega, show ((0 : Nat) : Int) = 0 from rfl, show partV q P 0 = P by simp [partV, marksV]] at hf
  have hE : (k40 : Kd S40).E = [] := rfl
  refine (laws_markVectorS.calls 1048577 (fun k => some k = v.ownBlock) v P q (q + 3 * (P.length : Int)) (marksV q P.length) w0 W K (Kd.R_lower (Kd.R_tight hE x) hb0) hf).mono ?_
  rintro E w' ⟨rfl, hR, hB, hK⟩
  refine ⟨rfl, ?_, hK, hB⟩
  refine ⟨x.1, ?_⟩
  obtain ⟨_, inner, ho, hr⟩ := hR
  refine ⟨inner, own_rebase ho (fun k hk => (x.1 k hk).1), hr.imp_ (fun p cs hp => ?_)⟩
  obtain rfl := k40_openM hp
  exact k40_mkM _ _ _ p

set_option maxHeartbeats 1000000 in
theorem markM_step (P : List S40) (T : List (List Int)) (h1 : P.length ≤ 1048576) (h2 : T.length ≤ 1048576) (h3 : ∀ t ∈ T, t.length ≤ 1048576) (q : Int) (hq : 0 ≤ q) (hq1 : q ≤ 4398046511104) (W : World) (A B : Option Addr) (c e a b : Nat) (x : OwnM W a b (.slice A P.length c) (.slice B T.length e) P T) (w0 : World) (K : Below w0.heap.size w0 W) (hb0 : w0.heap.size ≤ a) (hbW : b ≤ W.heap.size) :
    Calls Try.prog 14 #[.agg #[.slice A P.length c, .slice B T.length e], .int .i64 q] W fun E w' => E = .returned (.int .i64 (q + 3 * (P.length : Int) + (tot T : Int))) ∧ OwnM w' a b (.slice A P.length c) (.slice B T.length e) (marksV q P.length) (marksT (q + 3 * (P.length : Int)) T) ∧ Kept W w' (In a b) ∧ Below w0.heap.size w0 w' := by
  obtain ⟨xP, xT⟩ := x
  have hxP : ∀ k, (Value.slice A P.length c).ownBlock = some k → In a b k := fun k hk => xP.1 k hk
  have xT2 : Kd.S (Kd.slice 2 (Kd.int .i64)) 56 W a (fun k => In a b k ∧ some k ≠ (Value.slice A P.length c).ownBlock) (.slice B T.length e) T := by
    exact Kd.S_apart' xT (Kd.R_typed xP) (by decide)
  have H0 := Lib.hid hb0
  have XP := Lib.hid (Kd.R_alloc xP (.cells #[.slice A P.length c, .slice B T.length e] 29))
  have XT := Lib.hid (Kd.S_alloc xT2 (.cells #[.slice A P.length c, .slice B T.length e] 29))
  have K1 := Lib.hid (below_alloc K (.cells #[.slice A P.length c, .slice B T.length e] 29))
  have H3 := Lib.hid h3
  have HQ2 : Hid (q + 3 * (P.length : Int) ≤ 17592186044416) := Lib.hid (by omega)
  have hstep : ∀ w1 : World, Kept (W.alloc (.cells #[.slice A P.length c, .slice B T.length e] 29)) w1 (fun k => some k = (Value.slice A P.length c).ownBlock) → w1.cell? ⟨W.heap.size, 1, none⟩ = some (.slice B T.length e) := fun w1 hk =>
    cell_kept ((blk_cell (heap_alloc_new W _) 1).trans rfl) hk (fun h => by have := hxP _ h.symm; unfold In at this; simp only at this; omega)
  have HST := Lib.hid hstep
  have hfin : ∀ w1 w2 : World, Kept (W.alloc (.cells #[.slice A P.length c, .slice B T.length e] 29)) w1 (fun k => some k = (Value.slice A P.length c).ownBlock) → Kept w1 w2 (fun k => In a b k ∧ some k ≠ (Value.slice A P.length c).ownBlock) → Kept W w2 (In a b) := fun w1 w2 k1 k2 =>
    (((Kept.refl W (In a b)).alloc _).then_ k1 (fun k hk => .inl (hxP k hk.symm))).then_ k2 (fun k hk => .inl hk.1)
  have HF := Lib.hid hfin
  have hbw := K.size
  clear xP xT xT2 K h3 hstep hbw hb0 hfin hxP hbW
  go_enter Try.func14, Try.ntmps14
  go_wp2_with (first | (go_at_call 37; refine (markV_step P h1 q hq (by omega) _ _ a b XP.out w0 K1.out H0.out).mono ?_; rintro E w1 ⟨rfl, hR, hK, hB⟩; have hc1 := HST.out w1 hK; have R1 := Lib.hid hR; have KK1 := Lib.hid hK; have B1 := Lib.hid hB; clear hR hK hB) | (go_at_call 38; refine (mark_rows _ T h2 H3.out _ (by omega) HQ2.out _ a _ _ w0 B1.out H0.out B1.out.size (Kd.S_kept XT.out KK1.out (fun k hk he => hk.2 he))).mono ?_; rintro E w2 ⟨rfl, hS, hK2, hB2⟩; have S2 := Lib.hid hS; have KK2 := Lib.hid hK2; have B2 := Lib.hid hB2; clear hS hK2 hB2) | fail)
  go_ret
  have hE : (k40 : Kd S40).E = [] := rfl
  refine ⟨rfl, ⟨?_, Kd.S_mono S2.out (fun k hk => hk.1)⟩, HF.out _ _ KK1.out KK2.out, B2.out⟩
  exact Kd.R_mono (Kd.R_kept (Kd.R_tight2 hE R1.out) KK2.out (fun k hk hn => hn.2 hk.1)) (fun k hk => hk.2)

end Go.Proofs.Ytlendjpmblapkab
namespace Go.Proofs.Ytlendjpmblapkab
open Fl Go.RowKit Go.Proofs.YtlendjpmblapkabW.PrintWords Go.Proofs.Ytlendjpmblapkab.PMesh Msh
set_option linter.unusedVariables false

/-- A mesh that the reference has made: it is read alone. -/
def RefM (w : World) (a b : Nat) (vP vT : Value) (P : List S40) (T : List (List Int)) : Prop :=
  Kd.R k40 40 w a (In a b) vP P ∧ Kd.N (Kd.slice 2 (Kd.int .i64)) 56 w a (In a b) vT T
section
variable {w w' : World} {a b c d : Nat} {vP vT : Value} {P : List S40} {T : List (List Int)}
theorem RefM.below (h : RefM w a b vP vT P T) (hb : Below w.heap.size w w') : RefM w' a b vP vT P T := ⟨Kd.R_below h.1 hb, Kd.N_below h.2 hb⟩
theorem RefM.kept (h : RefM w a b vP vT P T) (hk : Kept w w' (In c d)) (ho : b ≤ c ∨ d ≤ a) : RefM w' a b vP vT P T := ⟨Kd.R_kept h.1 hk (In_off ho), Kd.N_kept h.2 hk (In_off ho)⟩
theorem RefM.C {A B : Option Addr} {n m e f : Nat} (h : RefM w a b (.slice A n e) (.slice B m f) P T) : Kd.C k40 w A P.length P ∧ P.length ≤ e ∧ Kd.C (Kd.slice 2 (Kd.int .i64)) w B T.length T ∧ T.length ≤ f := by
  obtain ⟨h1, h2, h3⟩ := Kd.R_reads' h.1
  obtain ⟨h4, h5, h6⟩ := Kd.N_reads' h.2
  exact ⟨h3, by omega, h6, by omega⟩
theorem N_in {α : Type} {d : Kd α} {e base : Nat} {w : World} {v : Value} {xs : List α} {ok : Nat → Prop} (h : Kd.N d e w base ok v xs) (hok : ∀ k, ok k → base ≤ k) : Kd.N d e w base (In base w.heap.size) v xs := Kd.N_mono (Kd.N_bound h) (fun k hk => ⟨hok k hk.1, hk.2⟩)
end
/-- What the reference's function with a mesh and a bool leaves. -/
def AnsR (w : World) (P : List S40) (T : List (List Int)) (b : Bool) (E : Ending) (w' : World) : Prop := ∃ A c B e, E = .returned (.tuple #[.agg #[.slice A P.length c, .slice B T.length e], .bool b]) ∧ RefM w' w.heap.size w'.heap.size (.slice A P.length c) (.slice B T.length e) P T ∧ Below w.heap.size w w'

/-- What a function with a mesh and a bool leaves. -/
def AnsM (w : World) (P : List S40) (T : List (List Int)) (b : Bool) (E : Ending) (w' : World) : Prop := ∃ A c B e, E = .returned (.tuple #[.agg #[.slice A P.length c, .slice B T.length e], .bool b]) ∧ OwnM w' w.heap.size w'.heap.size (.slice A P.length c) (.slice B T.length e) P T ∧ Below w.heap.size w w'

theorem eqR_step (P P' : List S40) (T : List (List Int)) (hp : simP P P') (h1 : P.length ≤ 1048576) (h2 : T.length ≤ 1048576) (h3 : ∀ t ∈ T, t.length ≤ 1048576) (W : World) (A A' B B' : Option Addr) (c c' e e' a b a' b' : Nat)
    (x : OwnM W a b (.slice A P.length c) (.slice B T.length e) P T) (y : RefM W a' b' (.slice A' P'.length c') (.slice B' T.length e') P' T) :
    Calls Try.prog 13 #[.agg #[.slice A P.length c, .slice B T.length e], .agg #[.slice A' P'.length c', .slice B' T.length e']] W fun E w' => E = .returned (.bool true) ∧ Below W.heap.size W w' :=
  laws_eqMesh.calls 2097156 A c P B e T A' c' P' B' e' T true W x.C.1 x.C.2.1 x.C.2.2.1 x.C.2.2.2 y.C.1 y.C.2.1 y.C.2.2.1 y.C.2.2.2 (eqMesh_f P P' T hp h1 h2 h3 _ (by omega))

end Go.Proofs.Ytlendjpmblapkab
namespace Go.Proofs.Ytlendjpmblapkab
open Fl Go.RowKit Go.Proofs.YtlendjpmblapkabW.PrintWords Go.Proofs.YtlendjpmblapkabW.PrintLast Go.Proofs.YtlendjpmblapkabW.PrintMore Go.Proofs.Ytlendjpmblapkab.PMesh Msh
set_option linter.unusedVariables false

theorem copy_loop (Q : List S40) (T : List (List Int)) (hT : T.length ≤ 1048576) (hr : ∀ t ∈ T, t.length ≤ 1048576) (d : Nat) : ∀ (k i : Nat), i ≤ T.length → T.length - i = d → d < k → impl_copyMesh.l0 k T (T.length : Int) (i : Int) Q (T.take i) = some (Q, T) := by
  induction d with
  | zero =>
    intro k i hi hd hk
    obtain ⟨k, rfl⟩ : ∃ j, k = j + 1 := ⟨k - 1, by omega⟩
    obtain rfl : i = T.length := by omega
    simp only [impl_copyMesh.l0]
    rw [if_neg (by omega), List.take_length]
  | succ d ih =>
    intro k i hi hd hk
    obtain ⟨k, rfl⟩ : ∃ j, k = j + 1 := ⟨k - 1, by omega⟩
    have hil : i < T.length := by omega
    have h3 := hr T[i] (List.getElem_mem hil)
    have e := ih k (i + 1) (by omega) (by omega) (by omega)
    rw [List.take_succ_eq_append_getElem hil] at e
    simp only [impl_copyMesh.l0, Option.bind_some, List.nil_append, List.length_nil]
    rw [if_pos (by omega), if_pos (by omega), if_pos (by omega), rdL T i hil, if_pos (by omega), if_pos (by rw [List.length_take]; omega), up i (by omega)]
    exact e
theorem copy_f (Q : List S40) (T : List (List Int)) (hQ : Q.length ≤ 1048576) (hT : T.length ≤ 1048576) (hr : ∀ t ∈ T, t.length ≤ 1048576) : impl_copyMesh.f 1048578 Q T = some (Q, T) := by
  unfold impl_copyMesh.f
  simp only [Option.bind_some, List.nil_append, List.length_nil]
  rw [if_pos (by omega)]
  exact copy_loop Q T hT hr T.length 1048578 0 (by omega) (by omega) (by omega)

theorem valid_rows {n : Nat} {T : List (List Int)} (hv : validB n T = true) : n ≤ 64 ∧ T.length ≤ 128 ∧ ∀ t ∈ T, t.length = 3 := by
  simp only [validB, Bool.and_eq_true, decide_eq_true_eq] at hv
  exact ⟨hv.1.1, hv.1.2, fun t ht => triB_len (List.all_eq_true.1 hv.2 t ht)⟩

theorem kept_two {w : World} {g : Nat} (u v : Value) : Kept w ((w.setCell ⟨g, 0, none⟩ u).setCell ⟨g, 1, none⟩ v) (fun k => k = g) := by
  have h1 : Kept w (w.setCell ⟨g, 0, none⟩ u) (fun k => k = g) := Kept.setCell (p := ⟨g, 0, none⟩) (Kept.refl w (fun k => k = g)) (Or.inl rfl) u
  exact Kept.setCell (p := ⟨g, 1, none⟩) h1 (Or.inl rfl) v

end Go.Proofs.Ytlendjpmblapkab
namespace Go.Proofs.Ytlendjpmblapkab
open Fl Go.RowKit Go.Proofs.YtlendjpmblapkabW.PrintWords Go.Proofs.YtlendjpmblapkabW.PrintLast Go.Proofs.YtlendjpmblapkabW.PrintMore Go.Proofs.Ytlendjpmblapkab.PMesh Msh
set_option linter.unusedVariables false

theorem oldc {w W : World} {a : Addr} {v : Value} (hb : Below w.heap.size w W) (h : w.cell? a = some v) : W.cell? a = some v := (hb.cell (World.block_lt_of_cell? _ _ h)).trans h

/-- The mesh's value if it is valid, else an empty mesh's. -/
def giveV (b : Bool) (u v : Value) : Value := if b = true then .agg #[u, v] else .agg #[.slice none 0 0, .slice none 0 0]

set_option maxHeartbeats 1000000 in
theorem impl_validMesh (A : Option Addr) (c : Nat) (Q : List S40) (B : Option Addr) (e : Nat) (T : List (List Int)) (w : World) (hQ : Kd.C k40 w A Q.length Q) (hq : Q.length ≤ c) (hT : Kd.C (Kd.slice 2 (Kd.int .i64)) w B T.length T) (hqt : T.length ≤ e) :
    Calls Try.prog 49 #[.agg #[.slice A Q.length c, .slice B T.length e]] w fun E w' => E = .returned (.tuple #[giveV (validB Q.length T) (.slice A Q.length c) (.slice B T.length e), .bool (validB Q.length T)]) ∧ Below w.heap.size w w' := by
  have hb0 := below_alloc (below_alloc (Below.refl w.heap.size w) (.cells #[.slice A Q.length c, .slice B T.length e] 29)) (.cells #[.slice none 0 0, .slice none 0 0] 29)
  have hbx := (BoxAt.new w 29 (.slice A Q.length c) (.slice B T.length e)).below (below_alloc (Below.refl _ _) (.cells #[.slice none 0 0, .slice none 0 0] 29))
  have hms : (w.alloc (.cells #[.slice A Q.length c, .slice B T.length e] 29)).heap.size = w.heap.size + 1 := by simp
  have hf0 := BoxAt.new (w.alloc (.cells #[.slice A Q.length c, .slice B T.length e] 29)) 29 (.slice none 0 0) (.slice none 0 0)
  rw [hms] at hf0
  have HX0 := Lib.hid hbx
  have HB0 := Lib.hid hb0
  have F0 := Lib.hid hf0
  have hc0 := hbx.c0
  have hc1 := hbx.c1
  have HV := Lib.hid (fun (W : World) (h : Below w.heap.size w W) => impl_ValidMesh.calls 2097156 A c Q B e T _ W (Kd.C_below hQ h) hq (Kd.C_below hT h) hqt (valid_f Q T _ (by omega)))
  generalize validB Q.length T = b at *
  clear hb0 hbx hf0 hms hQ hT hq hqt
  go_enter Try.func49, Try.ntmps49
  cases b
  · go_wp2_with (first
      | (go_at_call 33; refine (HV.out _ HB0.out).mono ?_; rintro E w1 ⟨rfl, hb⟩; have B1 := Lib.hid (below_then HB0.out hb HB0.out.size); have hf1 := F0.out.below hb; have f0 := hf1.c0; have f1 := hf1.c1; have z0 := blk_frozen hf1 0; have z1 := blk_frozen hf1 1; clear hb hc0 hc1)
      | fail)
    ((try simp only [Exit.inBlock, Exit.then]); refine bodyPost_ret (by simp [results, Try.results49, go_sem, f0, f1, setCell_same_of, World.cell?_setCell_other]; try rfl) rfl ?_)
    exact ⟨rfl, below_set (below_set B1.out (Nat.le_succ _)) (Nat.le_succ _)⟩
  · go_wp2_with (first
      | (go_at_call 33; refine (HV.out _ HB0.out).mono ?_; rintro E w1 ⟨rfl, hb⟩; have B1 := Lib.hid (below_then HB0.out hb HB0.out.size); have hx1 := HX0.out.below hb; have hd0 := hx1.c0; have hd1 := hx1.c1; have hf1 := F0.out.below hb; have f0 := hf1.c0; have f1 := hf1.c1; have z0 := blk_frozen hf1 0; have z1 := blk_frozen hf1 1; clear hb hc0 hc1)
      | fail)
    ((try simp only [Exit.inBlock, Exit.then]); refine bodyPost_ret (by simp [results, Try.results49, go_sem, f0, f1, setCell_same_of, World.cell?_setCell_other]; try rfl) rfl ?_)
    exact ⟨rfl, below_set (below_set B1.out (Nat.le_succ _)) (Nat.le_succ _)⟩

set_option maxHeartbeats 1000000 in
set_option maxRecDepth 100000 in
theorem spec_l02Is_reads (g : Nat) (A : Option Addr) (c : Nat) (Q : List S40) (B : Option Addr) (e : Nat) (T : List (List Int)) (w : World) (hg : BoxAt w g 29 (.slice A Q.length c) (.slice B T.length e)) (hT : Kd.C (Kd.slice 2 (Kd.int .i64)) w B T.length T) (hqt : T.length ≤ e) :
    Calls Try.prog 29 #[.pointer (some ⟨g, 0, none⟩)] w fun E w' => E = .returned (.bool (validB Q.length T)) ∧ Below w.heap.size w w' := by
  have hc0 := hg.c0
  have hc1 := hg.c1
  have hvd : validB Q.length T = (decide (Q.length ≤ 64) && decide (T.length ≤ 128) && T.all (triB Q.length)) := rfl
  by_cases hn : Q.length ≤ 64
  · by_cases ht : T.length ≤ 128
    · have e1 : ¬ ((64 : Int) < (Q.length : Int)) := by omega
      have e2 : ¬ ((128 : Int) < (T.length : Int)) := by omega
      rw [hvd, decide_eq_true hn, decide_eq_true ht, Bool.true_and, Bool.true_and]
      clear hvd
      have HG := Lib.hid hg
      have HC := Lib.hid hT
      clear hg hT
      go_enter Try.func29, Try.ntmps29
      go_wp2_with fail
      clear hc0 hc1
      go_loopw [3] (fun k wr => ∃ (i : Nat), i ≤ T.length ∧ k = .int .i64 (i : Int) ∧ Hid (Below w.heap.size w wr) ∧ Hid ((T.drop i).all (triB Q.length) = T.all (triB Q.length))) (fun k _ => T.length - (intOf k).toNat)
      case atStart => exact ⟨0, Nat.zero_le _, rfl, Lib.hid (Below.refl _ _), Lib.hid rfl⟩
      case round =>
        obtain ⟨i, hi, rfl, HB, HA⟩ := hrel
        have hg' := HG.out.below HB.out
        have hc0 := hg'.c0
        have hc1 := hg'.c1
        clear hg'
        by_cases hlt : i < T.length
        · have b1 : (i : Int) < (T.length : Int) := by omega
          have b2 : (0 : Int) ≤ (i : Int) := by omega
          have b3 : (i : Int) < 9223372036854775807 := by omega
          obtain ⟨ba, C, cc, rfl, tc, hcc, hC⟩ := at_L3 (Kd.C_below HC.out HB.out) (i : Int) (by omega) (by omega)
          rw [rdL T i hlt] at tc hcc hC
          rw [Int.toNat_natCast] at tc
          have hd : T.drop i = T[i] :: T.drop (i + 1) := List.drop_eq_getElem_cons hlt
          have HT3 := Lib.hid (fun (W : World) (h : Below wr.heap.size wr W) => spec_l02Triangle.calls 2 C cc T[i] (Q.length : Int) (triB Q.length T[i]) W (Kd.C_below hC h) hcc (triangle_f Q.length hn T[i] 2 (by omega)))
          have ha := HA.out
          rw [hd, List.all_cons] at ha
          have HA2 := Lib.hid ha
          clear hd ha HA hC hcc
          generalize T[i] = t at *
          have HK := Lib.hid (fun (W : World) (h : Below wr.heap.size wr W) => (⟨oldc h hc0, oldc h hc1, oldc h tc, h⟩ : W.cell? ⟨g, 0, none⟩ = some (.slice A Q.length c) ∧ W.cell? ⟨g, 1, none⟩ = some (.slice (some ba) T.length e) ∧ W.cell? (ba.add i) = some (.slice C t.length cc) ∧ Below wr.heap.size wr W))
          have S1 := HK.out wr (Below.refl _ _)
          go_wp2_with fail
          clear hc0 hc1 tc
          go_region_held3 (fun W => W.cell? ⟨g, 0, none⟩ = some (.slice A Q.length c) ∧ W.cell? ⟨g, 1, none⟩ = some (.slice (some ba) T.length e) ∧ W.cell? (ba.add i) = some (.slice C t.length cc) ∧ Below wr.heap.size wr W)
            (first | with_reducible assumption | (with_reducible exact HK.out _ (Below.drew (And.right (And.right (And.right (by with_reducible assumption)))))) | (with_reducible exact HK.out _ (below_then (And.right (And.right (And.right (by with_reducible assumption)))) (Drawn0.below (by with_reducible assumption)) (Below.size (And.right (And.right (And.right (by with_reducible assumption))))))))
            (first | (go_at_call 57; (with_reducible refine (HT3.out _ (And.right (And.right (And.right (by with_reducible assumption))))).mono ?_); rintro E w2 ⟨rfl, hd2⟩))
          rename_i hH
          have hbw := hH.2.2.2
          have HB2 := Lib.hid (below_then HB.out hbw HB.out.size)
          clear hH hbw S1 HK HT3
          clear hd2 e1 e2
          generalize triB Q.length t = q at *
          clear HG HC b1 b2 b3
          (try simp only [Exit.then])
          refine ‹∀ (a : Act) (w : World), Code.wp _ (Code.cond _ _ _) _ a w → _› _ _ ?_
          cases q
          · go_wp2_with fail
            go_ret
            exact ⟨by rw [← HA2.out]; rfl, HB2.out⟩
          · go_wp2_with fail
            exact ⟨⟨i + 1, hlt, by simp, HB2, Lib.hid (by rw [← HA2.out, Bool.true_and])⟩, by simp [intOf]; omega⟩
        · obtain rfl : i = T.length := by omega
          have hh := HA.out
          rw [List.drop_length] at hh
          go_wp2_with fail
          go_ret
          exact ⟨by rw [← hh]; rfl, HB.out⟩
    · have e1 : ¬ ((64 : Int) < (Q.length : Int)) := by omega
      have e2 : ((128 : Int) < (T.length : Int)) := by omega
      rw [hvd, decide_eq_false ht, Bool.and_false, Bool.false_and]
      go_enter Try.func29, Try.ntmps29
      go_wp2_with fail
      go_ret
      exact ⟨rfl, Below.refl _ _⟩
  · have e1 : ((64 : Int) < (Q.length : Int)) := by omega
    rw [hvd, decide_eq_false hn, Bool.false_and, Bool.false_and]
    go_enter Try.func29, Try.ntmps29
    go_wp2_with fail
    go_ret
    exact ⟨rfl, Below.refl _ _⟩

set_option maxHeartbeats 1000000 in
theorem spec_l02Give (A : Option Addr) (c : Nat) (Q : List S40) (B : Option Addr) (e : Nat) (T : List (List Int)) (w : World) (hT : Kd.C (Kd.slice 2 (Kd.int .i64)) w B T.length T) (hqt : T.length ≤ e) :
    Calls Try.prog 48 #[.agg #[.slice A Q.length c, .slice B T.length e]] w fun E w' => E = .returned (.tuple #[giveV (validB Q.length T) (.slice A Q.length c) (.slice B T.length e), .bool (validB Q.length T)]) ∧ Below w.heap.size w w' := by
  have hb0 := below_alloc (below_alloc (Below.refl w.heap.size w) (.cells #[.slice A Q.length c, .slice B T.length e] 29)) (.cells #[.slice none 0 0, .slice none 0 0] 29)
  have hbx := (BoxAt.new w 29 (.slice A Q.length c) (.slice B T.length e)).below (below_alloc (Below.refl _ _) (.cells #[.slice none 0 0, .slice none 0 0] 29))
  have hms : (w.alloc (.cells #[.slice A Q.length c, .slice B T.length e] 29)).heap.size = w.heap.size + 1 := by simp
  have hf0 := BoxAt.new (w.alloc (.cells #[.slice A Q.length c, .slice B T.length e] 29)) 29 (.slice none 0 0) (.slice none 0 0)
  rw [hms] at hf0
  have HX0 := Lib.hid hbx
  have HB0 := Lib.hid hb0
  have F0 := Lib.hid hf0
  have HV := Lib.hid (fun (W : World) (hx : BoxAt W w.heap.size 29 (.slice A Q.length c) (.slice B T.length e)) (h : Below w.heap.size w W) => spec_l02Is_reads w.heap.size A c Q B e T W hx (Kd.C_below hT h) hqt)
  generalize validB Q.length T = b at *
  clear hb0 hbx hf0 hms hT hqt
  go_enter Try.func48, Try.ntmps48
  cases b
  · go_wp2_with (first
      | (go_at_call 29; refine (HV.out _ HX0.out HB0.out).mono ?_; rintro E w1 ⟨rfl, hb⟩; have B1 := Lib.hid (below_then HB0.out hb HB0.out.size); have hf1 := F0.out.below hb; have f0 := hf1.c0; have f1 := hf1.c1; have z0 := blk_frozen hf1 0; have z1 := blk_frozen hf1 1; clear hb)
      | fail)
    ((try simp only [Exit.inBlock, Exit.then]); refine bodyPost_ret (by simp [results, Try.results48, go_sem, f0, f1, setCell_same_of, World.cell?_setCell_other]; try rfl) rfl ?_)
    exact ⟨rfl, below_set (below_set B1.out (Nat.le_succ _)) (Nat.le_succ _)⟩
  · go_wp2_with (first
      | (go_at_call 29; refine (HV.out _ HX0.out HB0.out).mono ?_; rintro E w1 ⟨rfl, hb⟩; have B1 := Lib.hid (below_then HB0.out hb HB0.out.size); have hx1 := HX0.out.below hb; have hd0 := hx1.c0; have hd1 := hx1.c1; have hf1 := F0.out.below hb; have f0 := hf1.c0; have f1 := hf1.c1; have z0 := blk_frozen hf1 0; have z1 := blk_frozen hf1 1; clear hb)
      | fail)
    ((try simp only [Exit.inBlock, Exit.then]); refine bodyPost_ret (by simp [results, Try.results48, go_sem, f0, f1, setCell_same_of, World.cell?_setCell_other]; try rfl) rfl ?_)
    exact ⟨rfl, below_set (below_set B1.out (Nat.le_succ _)) (Nat.le_succ _)⟩

end Go.Proofs.Ytlendjpmblapkab
namespace Go.Proofs.Ytlendjpmblapkab
open Fl Go.RowKit Go.Proofs.YtlendjpmblapkabW.PrintWords Go.Proofs.Ytlendjpmblapkab.PMesh Msh
set_option linter.unusedVariables false

theorem held_fAk (a : Int) (ha : 0 ≤ a) (ha1 : a ≤ 1152921504606846976) (n : Nat) (hl : n ≤ 1048576) (k : Nat) (hk : n < k) : laws_heldInt64S.f k (marksA a n) a = some (a + (n : Int)) := by
  unfold laws_heldInt64S.f
  have := held_loopA a ha ha1 n hl n k 0 (by omega) (by omega) (by omega)
  rw [show a + ((0 : Nat) : Int) = a by omega] at this
  exact this

theorem ofInt_eq (n : Int) : (FloatKind.f32.format.order (floatOfInt .f32 n) (floatOfInt .f32 n) != some Ordering.eq) = false := by
  have h : val .f32 (floatOfInt .f32 n) = some (floatOfInt .f32 n) := write_val .f32 (d := .number (decide (n < 0)) n.natAbs 0) rfl
  rw [order_self h]; rfl

theorem heldV_loop (q : Int) (h0 : 0 ≤ q) (hq : q ≤ 1099511627776) (n : Nat) (hn : n ≤ 1048576) (d : Nat) : ∀ (k i : Nat), i ≤ n → n - i = d → d < k → laws_heldVectorS.l0 k (marksV q n) (q + 3 * (i : Int)) (i : Int) = some (q + 3 * (n : Int)) := by
  have hl := marksV_len q n
  induction d with
  | zero =>
    intro k i hi hd hk
    obtain ⟨k, rfl⟩ : ∃ j, k = j + 1 := ⟨k - 1, by omega⟩
    obtain rfl : i = n := by omega
    simp only [laws_heldVectorS.l0]
    rw [if_neg (by omega)]
  | succ d ih =>
    intro k i hi hd hk
    obtain ⟨k, rfl⟩ : ∃ j, k = j + 1 := ⟨k - 1, by omega⟩
    have hil : i < (marksV q n).length := by omega
    simp only [laws_heldVectorS.l0]
    rw [if_pos (by omega), if_pos (by omega), rdV _ i hil, marksV_get q n i hil]
    rw [Msh.wrap_fit (x := q + 3 * (i : Int) + 1) (by omega) (by omega), Msh.wrap_fit (x := q + 3 * (i : Int) + 1 + 1) (by omega) (by omega), Msh.wrap_fit (x := q + 3 * (i : Int) + 1 + 1 + 1) (by omega) (by omega), up i (by omega)]
    have e := ih k (i + 1) (by omega) (by omega) (by omega)
    rw [show q + 3 * (i : Int) + 1 + 1 + 1 = q + 3 * ((i + 1 : Nat) : Int) by omega, show q + 3 * (i : Int) + 1 + 1 = q + 3 * (i : Int) + 2 by omega]
    simp only [mkV, ofInt_eq]
    simpa using e

theorem heldT_loop (X : List (List Int)) (hX : X.length ≤ 1048576) : ∀ (S : List (List Int)) (a : Int) (k j : Nat), X.drop j = marksT a S → j + S.length = X.length → 0 ≤ a → a + (tot S : Int) ≤ 1152921504606846976 → (∀ t ∈ S, t.length ≤ 1048576) → S.length + 1048577 < k →
    laws_heldInt64SS.l0 k X a (j : Int) = some (a + (tot S : Int)) := by
  intro S
  induction S with
  | nil =>
    intro a k j hd hj h0 h1 h2 hk
    obtain ⟨k, rfl⟩ : ∃ j, k = j + 1 := ⟨k - 1, by omega⟩
    simp only [laws_heldInt64SS.l0, List.length_nil] at hj ⊢
    rw [if_neg (by omega)]
    simp [tot]
  | cons t r ih =>
    intro a k j hd hj h0 h1 h2 hk
    obtain ⟨k, rfl⟩ : ∃ j, k = j + 1 := ⟨k - 1, by omega⟩
    simp only [List.length_cons, tot] at hj h1 hk
    have hjl : j < X.length := by omega
    have ht := h2 t List.mem_cons_self
    rw [List.drop_eq_getElem_cons hjl] at hd
    simp only [marksT, List.cons.injEq] at hd
    obtain ⟨hd1, hd2⟩ := hd
    simp only [laws_heldInt64SS.l0]
    rw [if_pos (by omega), if_pos (by omega), rdL X j hjl, hd1, held_fAk a h0 (by omega) _ ht k (by omega)]
    simp only [Option.bind_some]
    rw [if_neg (by omega), up j (by omega), ih (a + (t.length : Int)) k (j + 1) hd2 (by omega) (by omega) (by omega) (fun x hx => h2 x (List.mem_cons_of_mem _ hx)) (by omega)]
    congr 1
    simp only [tot]
    omega

theorem heldM_f (q : Int) (h0 : 0 ≤ q) (hq : q ≤ 8) (n : Nat) (hn : n ≤ 1048576) (T : List (List Int)) (h2 : T.length ≤ 1048576) (h3 : ∀ t ∈ T, t.length ≤ 1048576) :
    laws_heldMesh.f 2097156 (marksV q n) (marksT (q + 3 * (n : Int)) T) q = some (q + 3 * (n : Int) + (tot T : Int)) := by
  have ht := tot_le T h3
  have hT : tot T ≤ 1099511627776 := Nat.le_trans ht (by omega)
  unfold laws_heldMesh.f laws_heldVectorS.f
  have e := heldV_loop q h0 (by omega) n hn n 2097156 0 (by omega) (by omega) (by omega)
  rw [show q + 3 * ((0 : Nat) : Int) = q by omega, show ((0 : Nat) : Int) = 0 from rfl] at e
  rw [e]
  simp only [Option.bind_some]
  rw [if_neg (by omega)]
  unfold laws_heldInt64SS.f
  have e2 := heldT_loop (marksT (q + 3 * (n : Int)) T) (by rw [marksT_len]; exact h2) T (q + 3 * (n : Int)) 2097156 0 (by rw [List.drop_zero]) (by rw [marksT_len]; omega) (by omega) (by omega) h3 (by omega)
  rw [show ((0 : Nat) : Int) = 0 from rfl] at e2
  rw [e2]
  simp only [Option.bind_some]
  rw [if_neg (by omega)]

theorem heldM_step (P : List S40) (T : List (List Int)) (h1 : P.length ≤ 1048576) (h2 : T.length ≤ 1048576) (h3 : ∀ t ∈ T, t.length ≤ 1048576) (q : Int) (hq : 0 ≤ q) (hq1 : q ≤ 8) (W : World) (A B : Option Addr) (c e a b : Nat) (x : OwnM W a b (.slice A P.length c) (.slice B T.length e) (marksV q P.length) (marksT (q + 3 * (P.length : Int)) T)) :
    Calls Try.prog 15 #[.agg #[.slice A P.length c, .slice B T.length e], .int .i64 q] W fun E w' => E = .returned (.int .i64 (q + 3 * (P.length : Int) + (tot T : Int))) ∧ Below W.heap.size W w' := by
  have l1 := marksV_len q P.length
  have l2 := marksT_len T (q + 3 * (P.length : Int))
  have hC := OwnM.C x
  have h := laws_heldMesh.calls 2097156 A c (marksV q P.length) B e (marksT (q + 3 * (P.length : Int)) T) q _ W hC.1 hC.2.1 hC.2.2.1 hC.2.2.2 (heldM_f q hq hq1 P.length h1 T h2 h3)
  rw [l1, l2] at h
  exact h
end Go.Proofs.Ytlendjpmblapkab
namespace Go.Proofs.Ytlendjpmblapkab
open Fl Go.RowKit Go.Proofs.YtlendjpmblapkabW.PrintWords Go.Proofs.Ytlendjpmblapkab.PMesh Msh
set_option linter.unusedVariables false

theorem simF_symm {a b : Nat} (h : simF a b = true) : simF b a = true := by obtain ⟨h1, h2, h3⟩ := simF_iff.1 h; exact simF_iff.2 ⟨h2, h1, h3.symm⟩
theorem simF_trans {a b c : Nat} (h : simF a b = true) (k : simF b c = true) : simF a c = true := by obtain ⟨h1, h2, h3⟩ := simF_iff.1 h; obtain ⟨k1, k2, k3⟩ := simF_iff.1 k; exact simF_iff.2 ⟨h1, k2, h3.trans k3⟩
theorem simV_symm {x y : S40} (h : simV x y) : simV y x := ⟨simF_symm h.1, simF_symm h.2.1, simF_symm h.2.2⟩
theorem simV_trans {x y z : S40} (h : simV x y) (k : simV y z) : simV x z := ⟨simF_trans h.1 k.1, simF_trans h.2.1 k.2.1, simF_trans h.2.2 k.2.2⟩
theorem simP_symm {a b : List S40} (h : simP a b) : simP b a := ⟨h.1.symm, fun i ha hb => simV_symm (h.2 i hb ha)⟩
theorem simP_trans {a b c : List S40} (h : simP a b) (k : simP b c) : simP a c := ⟨h.1.trans k.1, fun i ha hc => simV_trans (h.2 i ha (h.1 ▸ ha)) (k.2 i (h.1 ▸ ha) hc)⟩
theorem simP_nil : simP [] [] := ⟨rfl, fun i ha _ => absurd ha (Nat.not_lt_zero _)⟩
theorem simP_append {a b a' b' : List S40} (h : simP a a') (k : simP b b') : simP (a ++ b) (a' ++ b') := by
  refine ⟨by simp [h.1, k.1], fun i ha hb => ?_⟩
  have e1 := h.1
  have e2 := k.1
  have ha' := ha
  have hb' := hb
  rw [List.length_append] at ha' hb'
  by_cases hi : i < a.length
  · rw [List.getElem_append_left hi, List.getElem_append_left (by rw [← h.1]; exact hi)]
    exact h.2 i hi _
  · rw [List.getElem_append_right (by omega), List.getElem_append_right (by rw [← h.1]; omega)]
    have := k.2 (i - a.length) (by omega) (by omega)
    simpa [h.1] using this
theorem simP_one {x y : S40} (h : simV x y) : simP [x] [y] := ⟨rfl, fun i ha hb => by
  have : i = 0 := by simp at ha; omega
  subst this
  exact h⟩

/-- What the program's function with a mesh and a bool leaves. -/
def AnsMs (w : World) (P : List S40) (T : List (List Int)) (b : Bool) (E : Ending) (w' : World) : Prop := ∃ P' A c B e, simP P' P ∧ E = .returned (.tuple #[.agg #[.slice A P.length c, .slice B T.length e], .bool b]) ∧ OwnM w' w.heap.size w'.heap.size (.slice A P.length c) (.slice B T.length e) P' T ∧ Below w.heap.size w w'
/-- What the reference's leaves. -/
def AnsRs (w : World) (P : List S40) (T : List (List Int)) (b : Bool) (E : Ending) (w' : World) : Prop := ∃ P' A c B e, simP P' P ∧ E = .returned (.tuple #[.agg #[.slice A P.length c, .slice B T.length e], .bool b]) ∧ RefM w' w.heap.size w'.heap.size (.slice A P.length c) (.slice B T.length e) P' T ∧ Below w.heap.size w w'
theorem OwnM.ref {w : World} {a b : Nat} {vP vT : Value} {P : List S40} {T : List (List Int)} (h : OwnM w a b vP vT P T) : RefM w a b vP vT P T := ⟨h.1, Kd.R_N (Kd.S_R h.2)⟩
theorem AnsM.s {w w' : World} {P : List S40} {T : List (List Int)} {b : Bool} {E : Ending} (h : AnsM w P T b E w') (hs : simP P P) : AnsMs w P T b E w' := by
  obtain ⟨A, c, B, e, rfl, hx, hb⟩ := h
  exact ⟨P, A, c, B, e, hs, rfl, hx, hb⟩
theorem AnsMs.r {w w' : World} {P : List S40} {T : List (List Int)} {b : Bool} {E : Ending} (h : AnsMs w P T b E w') : AnsRs w P T b E w' := by
  obtain ⟨P', A, c, B, e, hs, rfl, hx, hb⟩ := h
  exact ⟨P', A, c, B, e, hs, rfl, hx.ref, hb⟩

/-- A mesh that can be read. -/
def ReadM (w : World) (A : Option Addr) (c : Nat) (P : List S40) (B : Option Addr) (e : Nat) (T : List (List Int)) : Prop :=
  Kd.C k40 w A P.length P ∧ P.length ≤ c ∧ Kd.C (Kd.slice 2 (Kd.int .i64)) w B T.length T ∧ T.length ≤ e
theorem ReadM.below {w w' : World} {A B : Option Addr} {c e : Nat} {P : List S40} {T : List (List Int)} (h : ReadM w A c P B e T) (hb : Below w.heap.size w w') : ReadM w' A c P B e T := ⟨Kd.C_below h.1 hb, h.2.1, Kd.C_below h.2.2.1 hb, h.2.2.2⟩
theorem OwnM.read {w : World} {a b c e : Nat} {A B : Option Addr} {P : List S40} {T : List (List Int)} (h : OwnM w a b (.slice A P.length c) (.slice B T.length e) P T) : ReadM w A c P B e T := h.C
theorem RefM.read {w : World} {a b c e : Nat} {A B : Option Addr} {P : List S40} {T : List (List Int)} (h : RefM w a b (.slice A P.length c) (.slice B T.length e) P T) : ReadM w A c P B e T := h.C
/-- The same, n places told of another list as long. -/
theorem OwnM.readn {w : World} {a b c e : Nat} {A B : Option Addr} {P' P : List S40} {T : List (List Int)} (hs : simP P' P) (h : OwnM w a b (.slice A P.length c) (.slice B T.length e) P' T) : ReadM w A c P' B e T := by rw [← hs.1] at h; exact h.C
theorem RefM.readn {w : World} {a b c e : Nat} {A B : Option Addr} {P' P : List S40} {T : List (List Int)} (hs : simP P' P) (h : RefM w a b (.slice A P.length c) (.slice B T.length e) P' T) : ReadM w A c P' B e T := by rw [← hs.1] at h; exact h.C

theorem eqr_step (P P1 P2 : List S40) (T : List (List Int)) (s1 : simP P1 P) (s2 : simP P2 P) (h1 : P.length ≤ 1048576) (h2 : T.length ≤ 1048576) (h3 : ∀ t ∈ T, t.length ≤ 1048576) (W : World) (A A' B B' : Option Addr) (c c' e e' : Nat)
    (x : ReadM W A c P1 B e T) (y : ReadM W A' c' P2 B' e' T) :
    Calls Try.prog 13 #[.agg #[.slice A P.length c, .slice B T.length e], .agg #[.slice A' P.length c', .slice B' T.length e']] W fun E w' => E = .returned (.bool true) ∧ Below W.heap.size W w' := by
  have h := laws_eqMesh.calls 2097156 A c P1 B e T A' c' P2 B' e' T true W x.1 x.2.1 x.2.2.1 x.2.2.2 y.1 y.2.1 y.2.2.1 y.2.2.2 (eqMesh_f P1 P2 T (simP_trans s1 (simP_symm s2)) (by rw [s1.1]; exact h1) h2 h3 _ (by omega))
  rw [s1.1, s2.1] at h
  exact h

theorem markMs_step (P P1 : List S40) (T : List (List Int)) (s1 : simP P1 P) (h1 : P.length ≤ 1048576) (h2 : T.length ≤ 1048576) (h3 : ∀ t ∈ T, t.length ≤ 1048576) (q : Int) (hq : 0 ≤ q) (hq1 : q ≤ 4398046511104) (W : World) (A B : Option Addr) (c e a b : Nat) (x : OwnM W a b (.slice A P.length c) (.slice B T.length e) P1 T) (w0 : World) (K : Below w0.heap.size w0 W) (hb0 : w0.heap.size ≤ a) (hbW : b ≤ W.heap.size) :
    Calls Try.prog 14 #[.agg #[.slice A P.length c, .slice B T.length e], .int .i64 q] W fun E w' => E = .returned (.int .i64 (q + 3 * (P.length : Int) + (tot T : Int))) ∧ OwnM w' a b (.slice A P.length c) (.slice B T.length e) (marksV q P.length) (marksT (q + 3 * (P.length : Int)) T) ∧ Kept W w' (In a b) ∧ Below w0.heap.size w0 w' := by
  rw [← s1.1] at x h1 ⊢
  exact markM_step P1 T h1 h2 h3 q hq hq1 W A B c e a b x w0 K hb0 hbW

/-- A cell pair written keeps all but its block. -/
theorem kept_box {w : World} {g : Nat} (u v : Value) : Kept w ((w.setCell ⟨g, 0, none⟩ u).setCell ⟨g, 1, none⟩ v) (In g (g + 1)) := by
  have h : In g (g + 1) g := ⟨Nat.le_refl _, Nat.lt_succ_self _⟩
  have h1 : Kept w (w.setCell ⟨g, 0, none⟩ u) (In g (g + 1)) := Kept.setCell (p := ⟨g, 0, none⟩) (Kept.refl w _) (Or.inl h) u
  exact Kept.setCell (p := ⟨g, 1, none⟩) h1 (Or.inl h) v

/-- A variable that holds a vector of type t: its block. -/
def BoxT (W : World) (g : Nat) (t : TypeId) (p q s : Nat) : Prop := W.heap[g]? = some (.cells #[.float .f32 p, .float .f32 q, .float .f32 s] t (0, 0))
theorem BoxT.new (W : World) (t : TypeId) (p q s : Nat) : BoxT (W.alloc (.cells #[.float .f32 p, .float .f32 q, .float .f32 s] t)) W.heap.size t p q s := heap_alloc_new W _
section
variable {W W' : World} {g p q s c d : Nat} {t : TypeId}
theorem BoxT.below (h : BoxT W g t p q s) (hb : Below W.heap.size W W') : BoxT W' g t p q s := (hb.block g (blk_lt h)).trans h
theorem BoxT.kept (h : BoxT W g t p q s) (hk : Kept W W' (In c d)) (ho : g < c ∨ d ≤ g) : BoxT W' g t p q s := blk_kept h hk (fun hi => by unfold In at hi; omega)
theorem BoxT.c0 (h : BoxT W g t p q s) : W.cell? ⟨g, 0, none⟩ = some (.float .f32 p) := (blk_cell h 0).trans rfl
theorem BoxT.c1 (h : BoxT W g t p q s) : W.cell? ⟨g, 1, none⟩ = some (.float .f32 q) := (blk_cell h 1).trans rfl
theorem BoxT.c2 (h : BoxT W g t p q s) : W.cell? ⟨g, 2, none⟩ = some (.float .f32 s) := (blk_cell h 2).trans rfl
theorem BoxT.lt (h : BoxT W g t p q s) : g < W.heap.size := blk_lt h
end
end Go.Proofs.Ytlendjpmblapkab
namespace Go.Proofs.Ytlendjpmblapkab
set_option linter.unusedSimpArgs false
open Fl Go.RowKit Go.Proofs.YtlendjpmblapkabW.PrintWords Go.Proofs.YtlendjpmblapkabW.PrintLast Go.Proofs.YtlendjpmblapkabW.PrintMore Go.Proofs.Ytlendjpmblapkab.PMesh Msh
set_option linter.unusedVariables false

/-- A triangle's places moved on by n. -/
def shiftT (n : Nat) : List Int → List Int
  | [a, b, c] => [wrap64 (a + (n : Int)), wrap64 (b + (n : Int)), wrap64 (c + (n : Int))]
  | t => t
/-- The first mesh's triangles and i of the second's. -/
def joinT (T T' : List (List Int)) (n i : Nat) : List (List Int) := T ++ (T'.take i).map (shiftT n)
theorem joinT_zero (T T' : List (List Int)) (n : Nat) : joinT T T' n 0 = T := by simp [joinT]
theorem joinT_len (T T' : List (List Int)) (n i : Nat) (h : i ≤ T'.length) : (joinT T T' n i).length = T.length + i := by simp [joinT]; omega
theorem joinT_step (T T' : List (List Int)) (n i : Nat) (h : i < T'.length) : joinT T T' n (i + 1) = joinT T T' n i ++ [shiftT n T'[i]] := by
  unfold joinT
  rw [List.take_succ_eq_append_getElem h, List.map_append, List.map_singleton, List.append_assoc]
/-- A mesh if it is valid. -/
def joinV (P : List S40) (T : List (List Int)) : List S40 × List (List Int) × Bool := if validB P.length T = true then (P, T, true) else ([], [], false)
/-- What JoinMeshes answers. -/
def joinR (Q : List S40) (T : List (List Int)) (Q' : List S40) (T' : List (List Int)) : List S40 × List (List Int) × Bool := if validB Q.length T = true ∧ validB Q'.length T' = true then joinV (Q ++ Q') (joinT T T' Q.length T'.length) else ([], [], false)
theorem boxes3 (w : World) (t : TypeId) (u0 u1 v0 v1 x0 x1 : Value) : BoxAt (((w.alloc (.cells #[u0, u1] t)).alloc (.cells #[v0, v1] t)).alloc (.cells #[x0, x1] t)) w.heap.size t u0 u1 ∧ BoxAt (((w.alloc (.cells #[u0, u1] t)).alloc (.cells #[v0, v1] t)).alloc (.cells #[x0, x1] t)) (w.heap.size + 1) t v0 v1 ∧ BoxAt (((w.alloc (.cells #[u0, u1] t)).alloc (.cells #[v0, v1] t)).alloc (.cells #[x0, x1] t)) (w.heap.size + 1 + 1) t x0 x1 ∧ Below w.heap.size w (((w.alloc (.cells #[u0, u1] t)).alloc (.cells #[v0, v1] t)).alloc (.cells #[x0, x1] t)) := by
  have e1 : (w.alloc (.cells #[u0, u1] t)).heap.size = w.heap.size + 1 := by simp
  have e2 : ((w.alloc (.cells #[u0, u1] t)).alloc (.cells #[v0, v1] t)).heap.size = w.heap.size + 1 + 1 := by simp
  have b1 := below_alloc (Below.refl (w.alloc (.cells #[u0, u1] t)).heap.size (w.alloc (.cells #[u0, u1] t))) (.cells #[v0, v1] t)
  have b2 := below_alloc (Below.refl ((w.alloc (.cells #[u0, u1] t)).alloc (.cells #[v0, v1] t)).heap.size ((w.alloc (.cells #[u0, u1] t)).alloc (.cells #[v0, v1] t))) (.cells #[x0, x1] t)
  have n2 := BoxAt.new (w.alloc (.cells #[u0, u1] t)) t v0 v1
  have n3 := BoxAt.new ((w.alloc (.cells #[u0, u1] t)).alloc (.cells #[v0, v1] t)) t x0 x1
  rw [e1] at n2
  rw [e2] at n3
  exact ⟨((BoxAt.new w t u0 u1).below b1).below b2, n2.below b2, n3, below_alloc (below_alloc (below_alloc (Below.refl _ _) _) _) _⟩
theorem R_boxset {α : Type} {d : Kd α} {e : Nat} {w : World} {base : Nat} {v : Value} {xs : List α} (h : d.R e w base (fun _ => True) v xs) {g t : Nat} {cells : Array Value} (hb : w.heap[g]? = some (.cells cells t (0, 0))) (ht : ∀ q, q ∈ e :: d.E → q ≠ t) (j : Nat) (u : Value) : d.R e (w.setCell ⟨g, j, none⟩ u) base (fun _ => True) v xs :=
  Kd.R_mono (Kd.R_far (p := ⟨g, j, none⟩) (Kd.R_types h hb ht) (fun _ hk => hk.2) u) (fun _ _ => trivial)
end Go.Proofs.Ytlendjpmblapkab
namespace Go.Proofs.Ytlendjpmblapkab
open Fl Go.RowKit Go.Proofs.YtlendjpmblapkabW.PrintWords Go.Proofs.YtlendjpmblapkabW.PrintLast Go.Proofs.YtlendjpmblapkabW.PrintMore Go.Proofs.Ytlendjpmblapkab.PMesh Msh
set_option linter.unusedVariables false
set_option linter.unusedSimpArgs false

/-- Bits of a value. -/
def canB (X : Option Nat) : Nat := X.getD 2143289344
theorem canB_sim {r : Nat} {X : Option Nat} (h : FR .f32 r X) : simF r (canB X) = true := by
  obtain ⟨h1, h2⟩ := h
  replace h1 : r < 4294967296 := h1
  cases X with
  | none => exact simF_iff.2 ⟨h1, by decide, h2.trans (by decide +kernel)⟩
  | some b => obtain rfl := val_some h2; exact simF_iff.2 ⟨h1, h1, rfl⟩
def moveV (v0 v1 v2 : Nat) (x : S40) : S40 := ⟨canB (bin .add .f32 (val .f32 x.f0) (val .f32 v0)), canB (bin .add .f32 (val .f32 x.f1) (val .f32 v1)), canB (bin .add .f32 (val .f32 x.f2) (val .f32 v2))⟩
def scaleV (v : Nat) (x : S40) : S40 := ⟨canB (bin .mul .f32 (val .f32 x.f0) (val .f32 v)), canB (bin .mul .f32 (val .f32 x.f1) (val .f32 v)), canB (bin .mul .f32 (val .f32 x.f2) (val .f32 v))⟩
/-- What MoveMesh answers. -/
def moveR (Q : List S40) (T : List (List Int)) (v0 v1 v2 : Nat) : List S40 × List (List Int) × Bool := if validB Q.length T = true then (Q.map (moveV v0 v1 v2), T, true) else ([], [], false)
/-- What ScaleMesh answers. -/
def scaleR (Q : List S40) (T : List (List Int)) (v0 : Nat) : List S40 × List (List Int) × Bool := if validB Q.length T = true then (Q.map (scaleV v0), T, true) else ([], [], false)
theorem move_small (Q : List S40) (T : List (List Int)) (v0 v1 v2 : Nat) : (moveR Q T v0 v1 v2).1.length ≤ 1048576 ∧ (moveR Q T v0 v1 v2).2.1.length ≤ 1048576 ∧ ∀ t ∈ (moveR Q T v0 v1 v2).2.1, t.length ≤ 1048576 := by
  unfold moveR
  split
  · rename_i hv
    obtain ⟨a1, a2, a3⟩ := valid_rows hv
    exact ⟨by show (Q.map _).length ≤ _; rw [List.length_map]; omega, by show T.length ≤ _; omega, fun t ht => by have := a3 t ht; omega⟩
  · exact ⟨by simp, by simp, by simp⟩
theorem scale_small (Q : List S40) (T : List (List Int)) (v0 : Nat) : (scaleR Q T v0).1.length ≤ 1048576 ∧ (scaleR Q T v0).2.1.length ≤ 1048576 ∧ ∀ t ∈ (scaleR Q T v0).2.1, t.length ≤ 1048576 := by
  unfold scaleR
  split
  · rename_i hv
    obtain ⟨a1, a2, a3⟩ := valid_rows hv
    exact ⟨by show (Q.map _).length ≤ _; rw [List.length_map]; omega, by show T.length ≤ _; omega, fun t ht => by have := a3 t ht; omega⟩
  · exact ⟨by simp, by simp, by simp⟩
/-- The first i places are changed, up to what no law sees. -/
def PartP (f : S40 → S40) (Q l : List S40) (i : Nat) : Prop := l.length = Q.length ∧ (∀ j (h : j < l.length) (h' : j < Q.length), j < i → simV l[j] (f Q[j])) ∧ ∀ j (h : j < l.length) (h' : j < Q.length), i ≤ j → l[j] = Q[j]
theorem PartP.zero (f : S40 → S40) (Q : List S40) : PartP f Q Q 0 := ⟨rfl, fun j _ _ h => absurd h (Nat.not_lt_zero _), fun _ _ _ _ => rfl⟩
theorem PartP.at_ {f : S40 → S40} {Q l : List S40} {i : Nat} (h : PartP f Q l i) (hi : i < Q.length) : l.getD i ⟨0, 0, 0⟩ = Q[i] := by
  have hl : i < l.length := by rw [h.1]; exact hi
  rw [List.getD_eq_getElem?_getD, List.getElem?_eq_getElem hl]
  exact h.2.2 i hl hi (Nat.le_refl _)
theorem PartP.set {f : S40 → S40} {Q l : List S40} {i : Nat} {y : S40} (h : PartP f Q l i) (hi : i < Q.length) (hy : simV y (f Q[i])) : PartP f Q (l.set i y) (i + 1) := by
  refine ⟨by rw [List.length_set]; exact h.1, fun j hj hj' hlt => ?_, fun j hj hj' hle => ?_⟩
  · by_cases he : i = j
    · subst he; rw [List.getElem_set_self]; exact hy
    · rw [List.getElem_set_ne he]; exact h.2.1 j _ hj' (by omega)
  · rw [List.getElem_set_ne (by omega)]; exact h.2.2 j _ hj' (by omega)
theorem PartP.all_ {f : S40 → S40} {Q l : List S40} (h : PartP f Q l Q.length) : simP l (Q.map f) := ⟨by rw [List.length_map]; exact h.1, fun i ha hb => by rw [List.getElem_map]; exact h.2.1 i ha (by rw [List.length_map] at hb; exact hb) (by rw [List.length_map] at hb; exact hb)⟩
/-- Three cells of a block written keep all but it. -/
theorem below_set3 {w W : World} {g j : Nat} {u v x : Value} (h : Below w.heap.size w W) (hg : w.heap.size ≤ g) : Below w.heap.size w (W.setCells g j [u, v, x]) := below_set (below_set (below_set h hg) hg) hg
theorem boxes2m (w : World) (t t' : TypeId) (u0 u1 x0 x1 : Value) : BoxAt ((w.alloc (.cells #[u0, u1] t)).alloc (.cells #[x0, x1] t')) w.heap.size t u0 u1 ∧ BoxAt ((w.alloc (.cells #[u0, u1] t)).alloc (.cells #[x0, x1] t')) (w.heap.size + 1) t' x0 x1 ∧ Below w.heap.size w ((w.alloc (.cells #[u0, u1] t)).alloc (.cells #[x0, x1] t')) := by
  have e1 : (w.alloc (.cells #[u0, u1] t)).heap.size = w.heap.size + 1 := by simp
  have b1 := below_alloc (Below.refl (w.alloc (.cells #[u0, u1] t)).heap.size (w.alloc (.cells #[u0, u1] t))) (.cells #[x0, x1] t')
  have n2 := BoxAt.new (w.alloc (.cells #[u0, u1] t)) t' x0 x1
  rw [e1] at n2
  exact ⟨(BoxAt.new w t u0 u1).below b1, n2, below_alloc (below_alloc (Below.refl _ _) _) _⟩
theorem boxes3m (w : World) (t tv t' : TypeId) (u0 u1 x0 x1 : Value) (v0 v1 v2 : Nat) : BoxAt (((w.alloc (.cells #[u0, u1] t)).alloc (.cells #[.float .f32 v0, .float .f32 v1, .float .f32 v2] tv)).alloc (.cells #[x0, x1] t')) w.heap.size t u0 u1 ∧ BoxT (((w.alloc (.cells #[u0, u1] t)).alloc (.cells #[.float .f32 v0, .float .f32 v1, .float .f32 v2] tv)).alloc (.cells #[x0, x1] t')) (w.heap.size + 1) tv v0 v1 v2 ∧ BoxAt (((w.alloc (.cells #[u0, u1] t)).alloc (.cells #[.float .f32 v0, .float .f32 v1, .float .f32 v2] tv)).alloc (.cells #[x0, x1] t')) (w.heap.size + 1 + 1) t' x0 x1 ∧ Below w.heap.size w (((w.alloc (.cells #[u0, u1] t)).alloc (.cells #[.float .f32 v0, .float .f32 v1, .float .f32 v2] tv)).alloc (.cells #[x0, x1] t')) := by
  have e1 : (w.alloc (.cells #[u0, u1] t)).heap.size = w.heap.size + 1 := by simp
  have e2 : ((w.alloc (.cells #[u0, u1] t)).alloc (.cells #[.float .f32 v0, .float .f32 v1, .float .f32 v2] tv)).heap.size = w.heap.size + 1 + 1 := by simp
  have b1 := below_alloc (Below.refl (w.alloc (.cells #[u0, u1] t)).heap.size (w.alloc (.cells #[u0, u1] t))) (.cells #[.float .f32 v0, .float .f32 v1, .float .f32 v2] tv)
  have b2 := below_alloc (Below.refl ((w.alloc (.cells #[u0, u1] t)).alloc (.cells #[.float .f32 v0, .float .f32 v1, .float .f32 v2] tv)).heap.size ((w.alloc (.cells #[u0, u1] t)).alloc (.cells #[.float .f32 v0, .float .f32 v1, .float .f32 v2] tv))) (.cells #[x0, x1] t')
  have n2 := BoxT.new (w.alloc (.cells #[u0, u1] t)) tv v0 v1 v2
  have n3 := BoxAt.new ((w.alloc (.cells #[u0, u1] t)).alloc (.cells #[.float .f32 v0, .float .f32 v1, .float .f32 v2] tv)) t' x0 x1
  rw [e1] at n2
  rw [e2] at n3
  exact ⟨((BoxAt.new w t u0 u1).below b1).below b2, n2.below b2, n3, below_alloc (below_alloc (below_alloc (Below.refl _ _) _) _) _⟩
section
variable {P : Program} {ops : Array Oper} {Q : Exit → Act → World → Prop}
/-- A call of a function value that lies in a slot (as goes_). -/
theorem goesV_ {oi : Oper} {N : Option Tmp} {a : Act} {w : World} {K : Act → World → Prop} {f : FuncId} {fn : Func} {xs_ : Array Operand} {ts : Array TypeId} {t : Tmp} {cap : Array Value} (hf : P.funcs[f]? = some fn) (hname : (fn.name == "runtime.NumGoroutine") = false) (hb : fn.body.isSome = true) (args : Array Value)
    (hw : Region.wanted oi (yielded ops a.tmps) = true) (hN : oi.dst = N) (hop : oi.op = .call { callee := .value (.tmp t), args := xs_, argTypes := ts }) (hv : a.eval (.tmp t) = .func (.func f) #[] cap) (hargs : xs_.map a.eval ++ cap = args)
    (h : Calls P f args w fun e w' => ∃ v, e = .returned v ∧ K (a.put N v) w') : if Region.wanted oi (yielded ops a.tmps) = true then Oper.wp P oi a w K Q else K (a.put N undef) w := by
  refine call_ f args hw hN ?_ h
  have he := enters_ hf hname hb args w
  unfold execOp
  simp [hop, resolve, Deferred.ofValue, invoke, hv]
  rw [hargs]
  exact he
end
/-- A variable that holds a number of type t: its block. -/
def Box1 (W : World) (g : Nat) (t : TypeId) (p : Nat) : Prop := W.heap[g]? = some (.cells #[.float .f32 p] t (0, 0))
theorem Box1.below {W W' : World} {g p : Nat} {t : TypeId} (h : Box1 W g t p) (hb : Below W.heap.size W W') : Box1 W' g t p := (hb.block g (blk_lt h)).trans h
theorem Box1.c0 {W : World} {g p : Nat} {t : TypeId} (h : Box1 W g t p) : W.cell? ⟨g, 0, none⟩ = some (.float .f32 p) := (blk_cell h 0).trans rfl
end Go.Proofs.Ytlendjpmblapkab
namespace Go.Proofs.Ytlendjpmblapkab
open Fl Go.RowKit Go.Proofs.YtlendjpmblapkabW.PrintWords Go.Proofs.YtlendjpmblapkabW.PrintLast Go.Proofs.YtlendjpmblapkabW.PrintMore Go.Proofs.Ytlendjpmblapkab.PMesh Msh
set_option linter.unusedVariables false

section
variable {P : Program} {ops : Array Oper} {rest : List Oper} {o : Oper} {a : Act} {Q : Exit → Act → World → Prop} {Kc : Act → World → Prop} {α : Type}
theorem zip_two (xs : List α) (p q : α) : (xs ++ [p, q]).zipIdx = xs.zipIdx ++ [(p, xs.length), (q, xs.length + 1)] := by
  rw [List.zipIdx_append]; simp
open Classical in
theorem S_append2 (d : Kd α) (hd : d.sz = 1) {w0 W : World} (base : Nat) (hgd : o.guard = none) (s x : Operand) (t e : TypeId) (z : Value) (bytes : Nat)
    (ho : o.op = .call { callee := .builtin .append, args := #[s, x], argTypes := #[t, t] })
    (ht : P.underlying t = some (.slice e)) (hinfo : (P.info? e).map (fun i => (i.zero, i.size, i.bytes)) = some (some z, d.sz, bytes)) (hz : z.cells.size = d.sz) (hb0 : 0 < bytes)
    (v : Value) (xs : List α) (p q : α) (u1 u2 : Value) (g : Nat) (ok okp okq : Nat → Prop) (hs : a.eval s = v) (hx : a.eval x = .slice (some ⟨g, 0, none⟩) 2 2) (hc1 : W.cell? ⟨g, 0, none⟩ = some u1) (hc2 : W.cell? ⟨g, 1, none⟩ = some u2)
    (hp : d.M W base okp p [u1]) (hq : d.M W base okq q [u2]) (hokp : ∀ k, okp k → ok k ∧ some k ≠ v.ownBlock) (hokq : ∀ k, okq k → ok k ∧ some k ≠ v.ownBlock) (hpq : ∀ k, okp k → ¬ okq k) (hfresh : ∀ k, W.heap.size ≤ k → ok k)
    (HO : Kd.S d e W base (fun k => ok k ∧ ¬ okp k ∧ ¬ okq k) v xs) (HB : Below base w0 W) (hbase : base ≤ W.heap.size) (hl : (xs.length + 2) * bytes ≤ 140737488355328)
    (h : ∀ v1 w1, Kd.S d e w1 base ok v1 (xs ++ [p, q]) → Below base w0 w1 → W.grownBy w1 v.ownBlock → (v1.ownBlock = v.ownBlock ∨ ∃ b, v1.ownBlock = some b ∧ W.heap.size ≤ b) → wpList P ops Q rest (a.put o.dst v1) w1) :
    wpList P ops Q (o :: rest) a W := by
  obtain ⟨f, hR⟩ := HO
  have hR' : (Kd.tag (fun k => if okp k then xs.length else if okq k then xs.length + 1 else f k) d).R e W base (fun k => ok k ∧ ¬ okp k ∧ ¬ okq k) v xs.zipIdx :=
    Kd.R_tag hR (fun k hk _ => by show (if okp k then _ else if okq k then _ else f k) = f k; rw [if_neg hk.2.1, if_neg hk.2.2])
  refine Kd.R_append_rows (Kd.tag (fun k => if okp k then xs.length else if okq k then xs.length + 1 else f k) d) (Rr := fun y cs => (y = (p, xs.length) ∧ cs = [u1]) ∨ (y = (q, xs.length + 1) ∧ cs = [u2])) base hgd s x t e z bytes ho ht hinfo hz (by show 0 < d.sz; omega) hb0 v xs.zipIdx [(p, xs.length), (q, xs.length + 1)] (some ⟨g, 0, none⟩) 2 2 ok (fun k => okp k ∨ okq k) hs hx (Kd.R_mono hR' (fun _ hk => hk.1)) ⟨rfl, by decide, fun _ => ⟨_, rfl, ?_⟩⟩ ?_ (fun k hk => hk.elim (hokp k) (hokq k)) hfresh HB hbase (by rw [List.length_zipIdx]; exact hl) ?_
  · intro j y hj
    show ∃ c : List Value, c.length = d.sz ∧ _ ∧ ∀ i u, c[i]? = some u → W.cell? _ = some u
    rcases j with _ | _ | j
    · simp only [List.getElem?_cons_zero, Option.some.injEq] at hj
      refine ⟨[u1], by rw [hd]; rfl, Or.inl ⟨hj.symm, rfl⟩, fun i u hu => ?_⟩
      rcases i with _ | i
      · simp only [List.getElem?_cons_zero, Option.some.injEq] at hu
        rw [← hu]
        show W.cell? (Addr.add ⟨g, 0, none⟩ (0 * d.sz + 0)) = _
        rw [hd, add_at]; exact hc1
      · simp at hu
    · simp only [List.getElem?_cons_succ, List.getElem?_cons_zero, Option.some.injEq] at hj
      refine ⟨[u2], by rw [hd]; rfl, Or.inr ⟨hj.symm, rfl⟩, fun i u hu => ?_⟩
      rcases i with _ | i
      · simp only [List.getElem?_cons_zero, Option.some.injEq] at hu
        rw [← hu]
        show W.cell? (Addr.add ⟨g, 0, none⟩ ((0 + 1) * d.sz + 0)) = _
        rw [hd, add_at]; exact hc2
      · simp at hu
    · simp at hj
  · rintro y cs (⟨rfl, rfl⟩ | ⟨rfl, rfl⟩)
    · exact d.M_mono (fun k hk => ⟨Or.inl hk, if_pos hk⟩) hp
    · exact d.M_mono (fun k hk => ⟨Or.inr hk, by show (if okp k then _ else if okq k then _ else f k) = xs.length + 1; rw [if_neg (fun h2 => hpq k h2 hk), if_pos hk]⟩) hq
  · intro v1 w1 hr
    rw [← zip_two] at hr
    exact h v1 w1 ⟨_, hr⟩
open Classical in
theorem S_append2_step (d : Kd α) (hd : d.sz = 1) {w0 W : World} (base : Nat) (hw : Region.wanted o (yielded ops a.tmps) = true) (s x : Operand) (t e : TypeId) (z : Value) (bytes : Nat)
    (ho : o.op = .call { callee := .builtin .append, args := #[s, x], argTypes := #[t, t] })
    (ht : P.underlying t = some (.slice e)) (hinfo : (P.info? e).map (fun i => (i.zero, i.size, i.bytes)) = some (some z, d.sz, bytes)) (hz : z.cells.size = d.sz) (hb0 : 0 < bytes)
    (v : Value) (xs : List α) (p q : α) (u1 u2 : Value) (g : Nat) (ok okp okq : Nat → Prop) (hs : a.eval s = v) (hx : a.eval x = .slice (some ⟨g, 0, none⟩) 2 2) (hc1 : W.cell? ⟨g, 0, none⟩ = some u1) (hc2 : W.cell? ⟨g, 1, none⟩ = some u2)
    (hp : d.M W base okp p [u1]) (hq : d.M W base okq q [u2]) (hokp : ∀ k, okp k → ok k ∧ some k ≠ v.ownBlock) (hokq : ∀ k, okq k → ok k ∧ some k ≠ v.ownBlock) (hpq : ∀ k, okp k → ¬ okq k) (hfresh : ∀ k, W.heap.size ≤ k → ok k)
    (HO : Kd.S d e W base (fun k => ok k ∧ ¬ okp k ∧ ¬ okq k) v xs) (HB : Below base w0 W) (hbase : base ≤ W.heap.size) (hl : (xs.length + 2) * bytes ≤ 140737488355328)
    (h : ∀ v1 w1, Kd.S d e w1 base ok v1 (xs ++ [p, q]) → Below base w0 w1 → W.grownBy w1 v.ownBlock → (v1.ownBlock = v.ownBlock ∨ ∃ b, v1.ownBlock = some b ∧ W.heap.size ≤ b) → Kc (a.put o.dst v1) w1) :
    if Region.wanted o (yielded ops a.tmps) = true then Oper.wp P o a W Kc Q else Kc (a.put o.dst undef) W := by
  obtain ⟨f, hR⟩ := HO
  have hR' : (Kd.tag (fun k => if okp k then xs.length else if okq k then xs.length + 1 else f k) d).R e W base (fun k => ok k ∧ ¬ okp k ∧ ¬ okq k) v xs.zipIdx :=
    Kd.R_tag hR (fun k hk _ => by show (if okp k then _ else if okq k then _ else f k) = f k; rw [if_neg hk.2.1, if_neg hk.2.2])
  refine Kd.R_append_rows_step (Kd.tag (fun k => if okp k then xs.length else if okq k then xs.length + 1 else f k) d) (Rr := fun y cs => (y = (p, xs.length) ∧ cs = [u1]) ∨ (y = (q, xs.length + 1) ∧ cs = [u2])) base hw s x t e z bytes ho ht hinfo hz (by show 0 < d.sz; omega) hb0 v xs.zipIdx [(p, xs.length), (q, xs.length + 1)] (some ⟨g, 0, none⟩) 2 2 ok (fun k => okp k ∨ okq k) hs hx (Kd.R_mono hR' (fun _ hk => hk.1)) ⟨rfl, by decide, fun _ => ⟨_, rfl, ?_⟩⟩ ?_ (fun k hk => hk.elim (hokp k) (hokq k)) hfresh HB hbase (by rw [List.length_zipIdx]; exact hl) ?_
  · intro j y hj
    show ∃ c : List Value, c.length = d.sz ∧ _ ∧ ∀ i u, c[i]? = some u → W.cell? _ = some u
    rcases j with _ | _ | j
    · simp only [List.getElem?_cons_zero, Option.some.injEq] at hj
      refine ⟨[u1], by rw [hd]; rfl, Or.inl ⟨hj.symm, rfl⟩, fun i u hu => ?_⟩
      rcases i with _ | i
      · simp only [List.getElem?_cons_zero, Option.some.injEq] at hu
        rw [← hu]
        show W.cell? (Addr.add ⟨g, 0, none⟩ (0 * d.sz + 0)) = _
        rw [hd, add_at]; exact hc1
      · simp at hu
    · simp only [List.getElem?_cons_succ, List.getElem?_cons_zero, Option.some.injEq] at hj
      refine ⟨[u2], by rw [hd]; rfl, Or.inr ⟨hj.symm, rfl⟩, fun i u hu => ?_⟩
      rcases i with _ | i
      · simp only [List.getElem?_cons_zero, Option.some.injEq] at hu
        rw [← hu]
        show W.cell? (Addr.add ⟨g, 0, none⟩ ((0 + 1) * d.sz + 0)) = _
        rw [hd, add_at]; exact hc2
      · simp at hu
    · simp at hj
  · rintro y cs (⟨rfl, rfl⟩ | ⟨rfl, rfl⟩)
    · exact d.M_mono (fun k hk => ⟨Or.inl hk, if_pos hk⟩) hp
    · exact d.M_mono (fun k hk => ⟨Or.inr hk, by show (if okp k then _ else if okq k then _ else f k) = xs.length + 1; rw [if_neg (fun h2 => hpq k h2 hk), if_pos hk]⟩) hq
  · intro v1 w1 hr
    rw [← zip_two] at hr
    exact h v1 w1 ⟨_, hr⟩
end
end Go.Proofs.Ytlendjpmblapkab
namespace Go.Proofs.Ytlendjpmblapkab
open Fl Go.RowKit Go.Proofs.YtlendjpmblapkabW.PrintWords Go.Proofs.YtlendjpmblapkabW.PrintLast Go.Proofs.YtlendjpmblapkabW.PrintMore Go.Proofs.Ytlendjpmblapkab.PMesh Msh
set_option linter.unusedVariables false
set_option linter.unusedSimpArgs false

/-- A place of a grid, its rows m long. -/
def gptV (v m k : Nat) : S40 := ⟨canB (bin .mul .f32 (val .f32 (floatOfInt .f32 ((k % m : Nat) : Int))) (val .f32 v)), canB (bin .mul .f32 (val .f32 (floatOfInt .f32 ((k / m : Nat) : Int))) (val .f32 v)), 0⟩
def gridP (W H v : Nat) : List S40 := (List.range ((H + 1) * (W + 1))).map (gptV v (W + 1))
/-- The two triangles of a cell. -/
def triA (W x y : Nat) : List Int := [(x : Int) + ((W : Int) + 1) * (y : Int), (x : Int) + ((W : Int) + 1) * (y : Int) + 1, (x : Int) + ((W : Int) + 1) * (y : Int) + (W : Int) + 1 + 1]
def triC (W x y : Nat) : List Int := [(x : Int) + ((W : Int) + 1) * (y : Int), (x : Int) + ((W : Int) + 1) * (y : Int) + (W : Int) + 1 + 1, (x : Int) + ((W : Int) + 1) * (y : Int) + (W : Int) + 1]
def gridTn (W n : Nat) : List (List Int) := (List.range n).flatMap fun k => [triA W (k % W) (k / W), triC W (k % W) (k / W)]
def gridT (W H : Nat) : List (List Int) := gridTn W (H * W)
theorem gridTn_succ (W n : Nat) : gridTn W (n + 1) = gridTn W n ++ [triA W (n % W) (n / W), triC W (n % W) (n / W)] := by unfold gridTn; rw [List.range_succ, List.flatMap_append]; simp
theorem gridTn_len (W n : Nat) : (gridTn W n).length = 2 * n := by
  induction n with
  | zero => rfl
  | succ n ih => rw [gridTn_succ, List.length_append, ih]; simp; omega
/-- Whether a grid can be made. -/
def gridOk (wide high : Int) (v : Nat) : Bool := decide (1 ≤ wide ∧ wide ≤ 64) && decide (1 ≤ high ∧ high ≤ 64) && decide ((wide + 1) * (high + 1) ≤ 64) && G8.sizeB v
/-- What GridMesh answers. -/
def gridR (wide high : Int) (v : Nat) : List S40 × List (List Int) × Bool := if gridOk wide high v = true then joinV (gridP wide.toNat high.toNat v) (gridT wide.toNat high.toNat) else ([], [], false)
/-- n places of a grid, up to what no law sees. -/
def PL (v m n : Nat) (l : List S40) : Prop := simP l ((List.range n).map (gptV v m))
theorem PL.len {v m n : Nat} {l : List S40} (h : PL v m n l) : l.length = n := by have := h.1; rwa [List.length_map, List.length_range] at this
theorem PL.zero (v m : Nat) : PL v m 0 [] := simP_nil
theorem PL.step {v m x y : Nat} {l : List S40} (h : PL v m (y * m + x) l) (hx : x < m) {p q : Nat} (hp : FR .f32 p (bin .mul .f32 (val .f32 (floatOfInt .f32 (x : Int))) (val .f32 v))) (hq : FR .f32 q (bin .mul .f32 (val .f32 (floatOfInt .f32 (y : Int))) (val .f32 v))) : PL v m (y * m + (x + 1)) (l ++ [⟨p, q, 0⟩]) := by
  have e1 : (y * m + x) % m = x := by rw [Nat.add_comm, Nat.add_mul_mod_self_right, Nat.mod_eq_of_lt hx]
  have e2 : (y * m + x) / m = y := by rw [Nat.add_comm, Nat.add_mul_div_right _ _ (by omega), Nat.div_eq_of_lt hx, Nat.zero_add]
  unfold PL
  rw [show y * m + (x + 1) = (y * m + x) + 1 from rfl, List.range_succ, List.map_append, List.map_singleton]
  refine simP_append h (simP_one ?_)
  unfold gptV
  rw [e1, e2]
  exact ⟨canB_sim hp, canB_sim hq, simF_self (show 0 < 4294967296 by decide)⟩
theorem gridTn_step (W x y : Nat) (hx : x < W) : gridTn W (y * W + (x + 1)) = gridTn W (y * W + x) ++ [triA W x y, triC W x y] := by
  have e1 : (y * W + x) % W = x := by rw [Nat.add_comm, Nat.add_mul_mod_self_right, Nat.mod_eq_of_lt hx]
  have e2 : (y * W + x) / W = y := by rw [Nat.add_comm, Nat.add_mul_div_right _ _ (by omega), Nat.div_eq_of_lt hx, Nat.zero_add]
  rw [show y * W + (x + 1) = (y * W + x) + 1 from rfl, gridTn_succ, e1, e2]
theorem PL.row {v m y : Nat} {l : List S40} (h : PL v m (y * m + m) l) : PL v m ((y + 1) * m) l := by rwa [Nat.succ_mul]
/-- A mesh is handed back: its places up to what no law sees. -/
def AnsG (w : World) (P : List S40) (T : List (List Int)) (E : Ending) (w' : World) : Prop := ∃ P' A c B e, simP P' P ∧ E = .returned (.agg #[.slice A P.length c, .slice B T.length e]) ∧ OwnM w' w.heap.size w'.heap.size (.slice A P.length c) (.slice B T.length e) P' T ∧ Below w.heap.size w w'
theorem grid_small (wide high : Int) (v : Nat) : (gridR wide high v).1.length ≤ 1048576 ∧ (gridR wide high v).2.1.length ≤ 1048576 ∧ ∀ t ∈ (gridR wide high v).2.1, t.length ≤ 1048576 := by
  unfold gridR joinV
  split
  · split
    · rename_i hv
      obtain ⟨v1, v2, v3⟩ := valid_rows hv
      exact ⟨by show (gridP _ _ _).length ≤ _; omega, by show (gridT _ _).length ≤ _; omega, fun t ht => by have := v3 t ht; omega⟩
    · exact ⟨by simp, by simp, by simp⟩
  · exact ⟨by simp, by simp, by simp⟩
end Go.Proofs.Ytlendjpmblapkab
namespace Go.Proofs.Ytlendjpmblapkab
open Fl Go.RowKit Go.Proofs.YtlendjpmblapkabW.PrintWords Go.Proofs.YtlendjpmblapkabW.PrintLast Go.Proofs.YtlendjpmblapkabW.PrintMore Go.Proofs.Ytlendjpmblapkab.PMesh Msh
set_option linter.unusedVariables false
set_option linter.unusedSimpArgs false

theorem bounds_f (x : Int) : impl_within.f x 1 64 = some (decide (1 ≤ x ∧ x ≤ 64)) := by
  unfold impl_within.f
  by_cases h : 1 ≤ x
  · rw [if_pos h]; simp [h]
  · rw [if_neg h]; simp [h]

set_option maxHeartbeats 4000000 in
set_option maxRecDepth 100000 in
theorem impl_GridMesh (wide high : Int) (v : Nat) (w : World) :
    Calls Try.prog 26 #[.int .i64 wide, .int .i64 high, .float .f32 v] w (AnsMs w (gridR wide high v).1 (gridR wide high v).2.1 (gridR wide high v).2.2) := by
  have B0 := Lib.hid (below_alloc (Below.refl w.heap.size w) (.cells #[.slice none 0 0, .slice none 0 0] 29))
  have F0 := Lib.hid (BoxAt.new w 29 (.slice none 0 0) (.slice none 0 0))
  have HW := Lib.hid (fun (W' : World) => impl_within.calls wide 1 64 (decide (1 ≤ wide ∧ wide ≤ 64)) W' (bounds_f wide))
  have HH := Lib.hid (fun (W' : World) => impl_within.calls high 1 64 (decide (1 ≤ high ∧ high ≤ 64)) W' (bounds_f high))
  by_cases hw : 1 ≤ wide ∧ wide ≤ 64
  · rw [decide_eq_true hw] at HW
    by_cases hh : 1 ≤ high ∧ high ≤ 64
    · rw [decide_eq_true hh] at HH
      obtain ⟨hw1, hw2⟩ := hw
      obtain ⟨hh1, hh2⟩ := hh
      obtain ⟨W, hWI⟩ : ∃ W : Nat, wide = (W : Int) := ⟨wide.toNat, by omega⟩
      obtain ⟨H, hHI⟩ : ∃ H : Nat, high = (H : Int) := ⟨high.toNat, by omega⟩
      have HWI := Lib.hid hWI; have HHI := Lib.hid hHI
      have htw : wide.toNat = W := by omega
      have hth : high.toNat = H := by omega
      have ew : wrap64 (wide + 1) = wide + 1 := Msh.wrap_fit (by omega) (by omega)
      have eh : wrap64 (high + 1) = high + 1 := Msh.wrap_fit (by omega) (by omega)
      have hq1 : (wide + 1) * (high + 1) ≤ 65 * 65 := by rw [hWI, hHI, show ((W : Int) + 1) * ((H : Int) + 1) = (((W + 1) * (H + 1) : Nat) : Int) by push_cast; rfl]; show _ ≤ ((65 * 65 : Nat) : Int); exact Int.ofNat_le.2 (Nat.mul_le_mul (by omega) (by omega))
      have hq0 : 0 ≤ (wide + 1) * (high + 1) := by rw [hWI, hHI, show ((W : Int) + 1) * ((H : Int) + 1) = (((W + 1) * (H + 1) : Nat) : Int) by push_cast; rfl]; exact Int.natCast_nonneg _
      obtain ⟨m, hm⟩ : ∃ m : Int, m = (wide + 1) * (high + 1) := ⟨_, rfl⟩
      rw [← hm] at hq1 hq0
      have em : wrap64 ((wide + 1) * (high + 1)) = m := by rw [← hm]; exact Msh.wrap_fit (by omega) (by omega)
      have hok : gridOk wide high v = (decide (m ≤ 64) && G8.sizeB v) := by unfold gridOk; rw [decide_eq_true ⟨hw1, hw2⟩, decide_eq_true ⟨hh1, hh2⟩, Bool.true_and, Bool.true_and, hm]
      have hres : gridR wide high v = if (decide (m ≤ 64) && G8.sizeB v) = true then joinV (gridP W H v) (gridT W H) else ([], [], false) := by unfold gridR; rw [hok, htw, hth]
      rw [hres]
      clear hres hok hm htw hth
      have W64 : W ≤ 64 := by omega
      have H64 : H ≤ 64 := by omega
      clear hWI hHI
      by_cases hp : m ≤ 64
      · rw [decide_eq_true hp, Bool.true_and]
        have hp' : ¬ (64 : Int) < m := by omega
        have hp2 : decide ((64 : Int) < m) = false := decide_eq_false hp'
        by_cases hs : G8.sizeB v = true
        · rw [if_pos hs]
          have HS := Lib.hid hs
          clear hs hp hq0 hq1
          go_enter Try.func26, Try.ntmps26
          go_wp2_with (first
              | (go_at_call 55; first | (have hb1 := B1.out; refine (HH.out _).mono ?_; rintro E w2 ⟨rfl, hd⟩; have B2 := Lib.hid (below_step B1.out hd.below); have F2 := Lib.hid (F1.out.below hd.below); clear hd hb1; skip) | (refine (HW.out _).mono ?_; rintro E w1 ⟨rfl, hd⟩; have B1 := Lib.hid (below_step B0.out hd.below); have F1 := Lib.hid (F0.out.below hd.below); clear hd; skip))
              | (go_at_call 51; refine (G8.impl_isOver _ _).mono ?_; rw [HS.out]; rintro E w3 ⟨rfl, n, e3_⟩; have hn : Below w2.heap.size w2 w3 := (by rw [e3_]; exact pw_below_drewN (Below.refl w2.heap.size w2) n); clear e3_; have B3 := Lib.hid (below_step B2.out hn); have F3 := Lib.hid (F2.out.below hn); clear hn; skip)
              | fail)
          have hgl := F3.out.lt
          obtain ⟨wA, hwA⟩ : ∃ W', W' = w3.alloc (.cells #[.slice none 0 0, .slice none 0 0] 29) := ⟨_, rfl⟩
          have hvA : Below w3.heap.size w3 wA := by rw [hwA]; exact below_alloc (Below.refl _ _) _
          have BA := Lib.hid (below_step B3.out hvA)
          have FA := Lib.hid (F3.out.below hvA)
          have GA := Lib.hid (show BoxAt wA w3.heap.size 29 (.slice none 0 0) (.slice none 0 0) by rw [hwA]; exact BoxAt.new w3 29 _ _)
          have QA := Lib.hid (Kd.R_nil k40 40 wA w.heap.size (fun _ => True))
          have TA := Lib.hid (Kd.S_nil (Kd.slice 2 (Kd.int .i64)) 56 wA w.heap.size (fun _ => True))
          rw [← hwA]
          clear hwA hvA B1 B2 B3 F1 F2 F3 B0 F0 HW HH em hp' hp2
          generalize w3.heap.size = g at *
          go_loopw [40] (fun k wr => ∃ (y : Nat) (yi : Int) (u : Value) (l : List S40), y ≤ H + 1 ∧ k = .int .i64 yi ∧ Hid (yi = (y : Int)) ∧ Hid (Below w.heap.size w wr) ∧ Hid (BoxAt wr (w.heap.size) 29 (.slice none 0 0) (.slice none 0 0)) ∧ Hid (BoxAt wr g 29 u (.slice none 0 0)) ∧ Hid (PL v (W + 1) (y * (W + 1)) l) ∧ Hid (Kd.R k40 40 wr w.heap.size (fun _ => True) u l) ∧ Hid (Kd.S (Kd.slice 2 (Kd.int .i64)) 56 wr w.heap.size (fun _ => True) (.slice none 0 0) [])) (fun k _ => (H + 1) - (intOf k).toNat)
          case atStart => exact ⟨0, 0, _, [], Nat.zero_le _, rfl, Lib.hid rfl, BA, FA, GA, Lib.hid (by rw [Nat.zero_mul]; exact PL.zero _ _), QA, TA⟩
          case round =>
            clear BA FA GA QA TA
            obtain ⟨y, yi, u, l, hy, rfl, HYI, HB, HF, HG, HP, HR, HS⟩ := hrel
            by_cases hlt : y < H + 1
            · have y1 : yi < high + 1 := by rw [HYI.out, HHI.out]; omega
              have y2 : yi ≤ high := by rw [HYI.out, HHI.out]; omega
              have y3 : yi < 9223372036854775807 := by rw [HYI.out]; omega
              have y4 : (0 : Int) ≤ yi := by rw [HYI.out]; omega
              go_wp2_with fail
              go_loopw [45] (fun k wr => ∃ (x : Nat) (xi : Int) (u : Value) (l : List S40), x ≤ W + 1 ∧ k = .int .i64 xi ∧ Hid (xi = (x : Int)) ∧ Hid (Below w.heap.size w wr) ∧ Hid (BoxAt wr (w.heap.size) 29 (.slice none 0 0) (.slice none 0 0)) ∧ Hid (BoxAt wr g 29 u (.slice none 0 0)) ∧ Hid (PL v (W + 1) (y * (W + 1) + x) l) ∧ Hid (Kd.R k40 40 wr w.heap.size (fun _ => True) u l) ∧ Hid (Kd.S (Kd.slice 2 (Kd.int .i64)) 56 wr w.heap.size (fun _ => True) (.slice none 0 0) [])) (fun k _ => (W + 1) - (intOf k).toNat)
              case atStart => exact ⟨0, 0, u, l, Nat.zero_le _, rfl, Lib.hid rfl, HB, HF, HG, HP, HR, HS⟩
              case round =>
                clear HB HF HG HP HR HS
                obtain ⟨x, xi, u, l, hx, rfl, HXI, HB, HF, HG, HP, HR, HS⟩ := hrel
                by_cases hxlt : x < W + 1
                · have x1 : xi < wide + 1 := by rw [HXI.out, HWI.out]; omega
                  have x2 : xi ≤ wide := by rw [HXI.out, HWI.out]; omega
                  have x3 : xi < 9223372036854775807 := by rw [HXI.out]; omega
                  have x4 : (0 : Int) ≤ xi := by rw [HXI.out]; omega
                  have hg0 := HG.out.c0
                  have hll : Hid (l.length ≤ 16384) := Lib.hid (by rw [HP.out.len]; have := Nat.mul_le_mul_right (W + 1) (show y ≤ 64 by omega); omega)
                  go_wp2_with (first
                    | (refine wpList_fbin (o := ⟨some 53, _, _, _, _, _⟩) rfl _ _ _ _ _ rfl (by decide) _ _ _ rfl rfl ?_; intro p np hp)
                    | (refine wpList_fbin (o := ⟨some 57, _, _, _, _, _⟩) rfl _ _ _ _ _ rfl (by decide) _ _ _ rfl rfl ?_; intro q nq hq)
                    | ((with_reducible refine gate_builtin (b := .append) (xs := #[.tmp 49, .tmp 59]) rfl ?_); at_builtin; refine Kd.R_append k40 (w0 := w) w.heap.size rfl (.tmp 49) (.tmp 59) 27 40 (.agg #[(.float .f32 0), (.float .f32 0), (.float .f32 0)]) 12 rfl Try.underlying27 info40 rfl (by decide) (by omega) u l ⟨p, q, 0⟩ [.float .f32 p, .float .f32 q, .float .f32 0] (fun _ => True) (fun _ => False) rfl (by first | (go_simp; done) | (go_simp; rfl)) ?aP (fun _ hk => hk.elim) ?aF ?aO ?aB ?aS ?aL ?_; (case aP => exact k40_mkM _ _ _ _); (case aB => exact pw_below_drewN HB.out _); (case aF => exact (fun _ _ => trivial)); (case aO => exact Kd.R_drewN HR.out _); (case aS => exact below_size (pw_below_drewN HB.out _)); (case aL => have := hll.out; omega); intro v1 w1 ho hb hg_ hat
                       have hW : Below wr.heap.size wr (wr.drewN (np + nq)) := pw_below_drewN (Below.refl _ _) _
                       have hG1 : BoxAt w1 g 29 u (.slice none 0 0) := blk_grown (HG.out.below hW) hg_ (Kd.R_ne HR.out HG.out (by decide))
                       have F1 := Lib.hid (show BoxAt w1 (w.heap.size) 29 (.slice none 0 0) (.slice none 0 0) from blk_grown (HF.out.below hW) hg_ (Kd.R_ne HR.out HF.out (by decide)))
                       have S1 := Lib.hid (Kd.S_over' (Kd.S_below HS.out hW) (Kd.R_typed (Kd.R_below HR.out hW)) (by decide) hg_)
                       rw [HXI.out] at hp; rw [HYI.out] at hq; have hp1 := HP.out.step hxlt hp hq; obtain ⟨l2, hl2⟩ : ∃ l2, l2 = l ++ [(⟨p, q, 0⟩ : S40)] := ⟨_, rfl⟩; rw [← hl2] at ho hp1; obtain ⟨Av, cv, rfl⟩ := Kd.R_slice ho; have G1 := Lib.hid hG1; have R1 := Lib.hid ho; have B1 := Lib.hid hb; have P1 := Lib.hid hp1; have gs0 := hG1.c0; have gz0 := blk_frozen hG1 0; clear ho hb hg_ hat hW hG1 hg0 hp hq hp1 hl2)
                    | fail)
                  exact ⟨⟨x + 1, xi + 1, _, _, hxlt, by simp, Lib.hid (by rw [HXI.out]; omega), Lib.hid (below_set B1.out (by omega)), Lib.hid (blk_far F1.out (by show w.heap.size ≠ g; omega) _), Lib.hid (blk_put G1.out 0 _ rfl), P1, Lib.hid (R_boxset R1.out G1.out (by decide) 0 _), Lib.hid (Kd.S_set S1.out G1.out (by decide) 0 _)⟩, by have h1_ := HXI.out; simp [intOf]; omega⟩
                · obtain rfl : x = W + 1 := by omega
                  have x1 : ¬ (xi < wide + 1) := by rw [HXI.out, HWI.out]; omega
                  have x2 : ¬ (xi ≤ wide) := by rw [HXI.out, HWI.out]; omega
                  go_wp2_with fail
                  exact ⟨⟨y + 1, yi + 1, u, l, hlt, by simp, Lib.hid (by rw [HYI.out]; omega), HB, HF, HG, Lib.hid HP.out.row, HR, HS⟩, by have h1_ := HYI.out; simp [intOf]; omega⟩
            · obtain rfl : y = H + 1 := by omega
              have y1 : ¬ (yi < high + 1) := by rw [HYI.out, HHI.out]; omega
              have y2 : ¬ (yi ≤ high) := by rw [HYI.out, HHI.out]; omega
              go_wp2_with fail
              clear y1 y2 hlt hy
              go_loopw [65] (fun k wr => ∃ (y : Nat) (yi : Int) (vt : Value), y ≤ H ∧ k = .int .i64 yi ∧ Hid (yi = (y : Int)) ∧ Hid (Below w.heap.size w wr) ∧ Hid (BoxAt wr (w.heap.size) 29 (.slice none 0 0) (.slice none 0 0)) ∧ Hid (BoxAt wr g 29 u vt) ∧ Hid (Kd.R k40 40 wr w.heap.size (fun _ => True) u l) ∧ Hid (Kd.S (Kd.slice 2 (Kd.int .i64)) 56 wr w.heap.size (fun _ => True) vt (gridTn W (y * W)))) (fun k _ => H - (intOf k).toNat)
              case atStart => exact ⟨0, 0, _, Nat.zero_le _, rfl, Lib.hid rfl, HB, HF, HG, HR, Lib.hid (by rw [Nat.zero_mul]; exact HS.out)⟩
              case round =>
                clear HB HF HG HR HS
                obtain ⟨y, yi, vt, hy, rfl, HYI, HB, HF, HG, HR, HS⟩ := hrel
                by_cases hlt : y < H
                · have y1 : yi < high := by rw [HYI.out, HHI.out]; omega
                  have y3 : yi < 9223372036854775807 := by rw [HYI.out]; omega
                  have y4 : (0 : Int) ≤ yi := by rw [HYI.out]; omega
                  go_wp2_with fail
                  go_loopw [69] (fun k wr => ∃ (x : Nat) (xi : Int) (vt : Value), x ≤ W ∧ k = .int .i64 xi ∧ Hid (xi = (x : Int)) ∧ Hid (Below w.heap.size w wr) ∧ Hid (BoxAt wr (w.heap.size) 29 (.slice none 0 0) (.slice none 0 0)) ∧ Hid (BoxAt wr g 29 u vt) ∧ Hid (Kd.R k40 40 wr w.heap.size (fun _ => True) u l) ∧ Hid (Kd.S (Kd.slice 2 (Kd.int .i64)) 56 wr w.heap.size (fun _ => True) vt (gridTn W (y * W + x)))) (fun k _ => W - (intOf k).toNat)
                  case atStart => exact ⟨0, 0, vt, Nat.zero_le _, rfl, Lib.hid rfl, HB, HF, HG, HR, HS⟩
                  case round =>
                    clear HB HF HG HR HS
                    obtain ⟨x, xi, vt, hx, rfl, HXI, HB, HF, HG, HR, HS⟩ := hrel
                    by_cases hxlt : x < W
                    · have x1 : xi < wide := by rw [HXI.out, HWI.out]; omega
                      have x3 : xi < 9223372036854775807 := by rw [HXI.out]; omega
                      have x4 : (0 : Int) ≤ xi := by rw [HXI.out]; omega
                      have hg1 := HG.out.c1
                      have hq1 : (wide + 1) * yi ≤ 65 * 64 := by rw [HWI.out, HYI.out, show ((W : Int) + 1) * (y : Int) = (((W + 1) * y : Nat) : Int) by push_cast; rfl]; show _ ≤ ((65 * 64 : Nat) : Int); exact Int.ofNat_le.2 (Nat.mul_le_mul (by omega) (by omega))
                      have hq0 : 0 ≤ (wide + 1) * yi := by rw [HWI.out, HYI.out, show ((W : Int) + 1) * (y : Int) = (((W + 1) * y : Nat) : Int) by push_cast; rfl]; exact Int.natCast_nonneg _
                      obtain ⟨m, hm⟩ : ∃ m, m = (wide + 1) * yi := ⟨_, rfl⟩
                      rw [← hm] at hq1 hq0
                      have ew1 : wrap64 (wide + 1) = wide + 1 := Msh.wrap_fit (by omega) (by omega)
                      have ew3 : wrap64 (xi + m) = xi + m := Msh.wrap_fit (by omega) (by omega)
                      have ei1 : wrap64 (xi + m + 1) = xi + m + 1 := Msh.wrap_fit (by omega) (by omega)
                      have ei2 : wrap64 (xi + m + wide) = xi + m + wide := Msh.wrap_fit (by omega) (by omega)
                      have ei3 : wrap64 (xi + m + wide + 1) = xi + m + wide + 1 := Msh.wrap_fit (by omega) (by omega)
                      have ei4 : wrap64 (xi + m + wide + 1 + 1) = xi + m + wide + 1 + 1 := Msh.wrap_fit (by omega) (by omega)
                      have ew2 : wrap64 ((wide + 1) * yi) = m := by rw [← hm]; exact Msh.wrap_fit (by omega) (by omega)
                      have hTA : triA W x y = [xi + m, xi + m + 1, xi + m + wide + 1 + 1] := by rw [hm, HXI.out, HYI.out, HWI.out]; rfl
                      have hTC : triC W x y = [xi + m, xi + m + wide + 1 + 1, xi + m + wide + 1] := by rw [hm, HXI.out, HYI.out, HWI.out]; rfl
                      have hts := gridTn_step W x y hxlt
                      rw [hTA, hTC] at hts
                      have HTS := Lib.hid hts
                      have hll : Hid ((gridTn W (y * W + x)).length ≤ 16384) := Lib.hid (by rw [gridTn_len]; have := Nat.mul_le_mul_right W (show y ≤ 64 by omega); omega)
                      clear hts hTA hTC hm
                      go_wp2_with (first
                        | ((with_reducible refine gate_dst (N := 89) rfl ?_); refine Kd.R_lit (Kd.int .i64) _ 2 ?hg (N := 89) ?hd (xs := ([xi + m, xi + m + 1, xi + m + wide + 1 + 1] : List Int)) (inner := [.int .i64 (xi + m), .int .i64 (xi + m + 1), .int .i64 (xi + m + wide + 1 + 1)]) (ok := fun _ => True) (okp := fun _ => True) ?hr ?hp (fun _ hk => hk) trivial (Below.refl _ _) (Nat.le_refl _) (by simp) ?_; (case hd => rfl); (case hg => rfl); (case hr => first | (go_simp; done) | (go_simp; rfl)); (case hp => exact (Reps.one (show Kd.M (Kd.int .i64) _ _ _ (xi + m) [.int .i64 (xi + m)] from rfl) (Reps.one (show Kd.M (Kd.int .i64) _ _ _ (xi + m + 1) [.int .i64 (xi + m + 1)] from rfl) (Reps.one (show Kd.M (Kd.int .i64) _ _ _ (xi + m + wide + 1 + 1) [.int .i64 (xi + m + wide + 1 + 1)] from rfl) (Reps.none _ _))))); intro va w2 ho hb hg_ hnew_; clear hg_ hnew_; obtain ⟨Aa, ca, rfl⟩ := Kd.R_slice ho; have B2 := Lib.hid (below_step HB.out hb); have F2 := Lib.hid (HF.out.below hb); have G2 := Lib.hid (HG.out.below hb); have R2 := Lib.hid (Kd.R_below HR.out hb); have S2 := Lib.hid (Kd.S_elder' HS.out (Kd.R_base ho) hb); have L2 := Lib.hid (Kd.R_lower ho (below_size HB.out)); have LB2 := Lib.hid (Kd.R_bound ho); clear ho hb hg1)
                        | ((with_reducible refine gate_dst (N := 94) rfl ?_); refine Kd.R_lit (Kd.int .i64) _ 2 ?hg (N := 94) ?hd (xs := ([xi + m, xi + m + wide + 1 + 1, xi + m + wide + 1] : List Int)) (inner := [.int .i64 (xi + m), .int .i64 (xi + m + wide + 1 + 1), .int .i64 (xi + m + wide + 1)]) (ok := fun _ => True) (okp := fun _ => True) ?hr ?hp (fun _ hk => hk) trivial (Below.refl _ _) (Nat.le_refl _) (by simp) ?_; (case hd => rfl); (case hg => rfl); (case hr => first | (go_simp; done) | (go_simp; rfl)); (case hp => exact (Reps.one (show Kd.M (Kd.int .i64) _ _ _ (xi + m) [.int .i64 (xi + m)] from rfl) (Reps.one (show Kd.M (Kd.int .i64) _ _ _ (xi + m + wide + 1 + 1) [.int .i64 (xi + m + wide + 1 + 1)] from rfl) (Reps.one (show Kd.M (Kd.int .i64) _ _ _ (xi + m + wide + 1) [.int .i64 (xi + m + wide + 1)] from rfl) (Reps.none _ _))))); intro vc w3 ho hb hg_ hnew_; clear hg_ hnew_; obtain ⟨Ac, cc, rfl⟩ := Kd.R_slice ho; have B3 := Lib.hid (below_step B2.out hb); have F3 := Lib.hid (F2.out.below hb); have G3 := Lib.hid (G2.out.below hb); have R3 := Lib.hid (Kd.R_below R2.out hb); have S3 := Lib.hid (Kd.S_elder' S2.out (Kd.R_base ho) hb); have L3 := Lib.hid (Kd.R_below L2.out hb); have M3 := Lib.hid (Kd.R_lower ho (below_size B2.out)); have D3 := Lib.hid (show ∀ k, some k = (Value.slice Aa 3 ca).ownBlock → ¬ some k = (Value.slice Ac 3 cc).ownBlock from fun k h1 h2 => by have := (LB2.out.1 k h1.symm).2.2.1; have := Kd.R_base ho k h2.symm; omega); clear ho hb)
                        | ((with_reducible refine gate_builtin (b := .append) (xs := #[.tmp 83, .tmp 95]) rfl ?_); at_builtin; refine S_append2 (Kd.slice 2 (Kd.int .i64)) rfl (w0 := w) w.heap.size rfl (.tmp 83) (.tmp 95) 23 56 (.slice none 0 0) 24 rfl Try.underlying23 info56 rfl (by omega) vt (gridTn W (y * W + x)) [xi + m, xi + m + 1, xi + m + wide + 1 + 1] [xi + m, xi + m + wide + 1 + 1, xi + m + wide + 1] (.slice Aa 3 ca) (.slice Ac 3 cc) w3.heap.size (fun _ => True) (fun k_ => some k_ = (.slice Aa 3 ca : Value).ownBlock) (fun k_ => some k_ = (.slice Ac 3 cc : Value).ownBlock) rfl (by first | (go_simp; done) | (go_simp; rfl)) ?aC ?aD ?aP ?aQ ?aN ?aM D3.out ?aF ?aO ?aB ?aS ?aL ?_
                           (case aC => exact (blk_cell (heap_alloc_new w3 (.cells #[.slice Aa 3 ca, .slice Ac 3 cc] 56)) 0).trans rfl); (case aD => exact (blk_cell (heap_alloc_new w3 (.cells #[.slice Aa 3 ca, .slice Ac 3 cc] 56)) 1).trans rfl)
                           (case aP => exact Kd.M_row (Kd.R_alloc (Kd.R_mono (Kd.R_tight rfl (Kd.R_mono (ok' := fun k_ => ((fun _ => True)) k_ ∧ some k_ ≠ (vt : Value).ownBlock) (Kd.R_apart' (L3.out) (Kd.S_typed S3.out) (by decide)) (fun k_ hk => ⟨trivial, hk.2⟩))) (fun _ h_ => h_)) (.cells #[.slice Aa 3 ca, .slice Ac 3 cc] 56))); (case aQ => exact Kd.M_row (Kd.R_alloc (Kd.R_mono (Kd.R_tight rfl (Kd.R_mono (ok' := fun k_ => ((fun _ => True)) k_ ∧ some k_ ≠ (vt : Value).ownBlock) (Kd.R_apart' (M3.out) (Kd.S_typed S3.out) (by decide)) (fun k_ hk => ⟨trivial, hk.2⟩))) (fun _ h_ => h_)) (.cells #[.slice Aa 3 ca, .slice Ac 3 cc] 56)))
                           (case aN => exact fun k_ hk_ => ((Kd.R_mono (ok' := fun k_ => ((fun _ => True)) k_ ∧ some k_ ≠ (vt : Value).ownBlock) (Kd.R_apart' (L3.out) (Kd.S_typed S3.out) (by decide)) (fun k_ hk => ⟨trivial, hk.2⟩))).1 k_ hk_.symm); (case aM => exact fun k_ hk_ => ((Kd.R_mono (ok' := fun k_ => ((fun _ => True)) k_ ∧ some k_ ≠ (vt : Value).ownBlock) (Kd.R_apart' (M3.out) (Kd.S_typed S3.out) (by decide)) (fun k_ hk => ⟨trivial, hk.2⟩))).1 k_ hk_.symm)
                           (case aF => exact (fun _ _ => trivial)); (case aB => exact below_alloc B3.out (.cells #[.slice Aa 3 ca, .slice Ac 3 cc] 56)); (case aS => exact Nat.le_trans (below_size B3.out) (Nat.le_of_lt (blk_lt (heap_alloc_new w3 (.cells #[.slice Aa 3 ca, .slice Ac 3 cc] 56))))); (case aL => have := hll.out; omega)
                           (case aO => exact Kd.S_alloc (Kd.S_mono S3.out (fun k_ hk => ⟨trivial, fun e_ => hk.1.2 e_, fun e_ => hk.2 e_⟩)) (.cells #[.slice Aa 3 ca, .slice Ac 3 cc] 56))
                           intro v1 w4 ho hb hg_ hat
                           have hW : Below w3.heap.size w3 (w3.alloc (.cells #[.slice Aa 3 ca, .slice Ac 3 cc] 56)) := below_alloc (Below.refl _ _) _
                           have hG4 : BoxAt w4 g 29 u vt := blk_grown (G3.out.below hW) hg_ (Kd.S_ne S3.out G3.out (by decide))
                           have F4 := Lib.hid (show BoxAt w4 (w.heap.size) 29 (.slice none 0 0) (.slice none 0 0) from blk_grown (F3.out.below hW) hg_ (Kd.S_ne S3.out F3.out (by decide)))
                           have R4 := Lib.hid (Kd.R_over' (Kd.R_below R3.out hW) (Kd.S_typed (Kd.S_below S3.out hW)) (by decide) hg_)
                           rw [← HTS.out] at ho
                           obtain ⟨Av, cv, rfl⟩ := Kd.S_slice ho
                           have G4 := Lib.hid hG4; have S4 := Lib.hid ho; have B4 := Lib.hid hb; have gs1 := hG4.c1; have gz1 := blk_frozen hG4 1; clear ho hb hg_ hat hW hG4)
                        | fail)
                      exact ⟨⟨x + 1, xi + 1, _, hxlt, by simp, Lib.hid (by rw [HXI.out]; omega), Lib.hid (below_set B4.out (by omega)), Lib.hid (blk_far F4.out (by show w.heap.size ≠ g; omega) _), Lib.hid (blk_put G4.out 1 _ rfl), Lib.hid (R_boxset R4.out G4.out (by decide) 1 _), Lib.hid (Kd.S_set S4.out G4.out (by decide) 1 _)⟩, by have h1_ := HXI.out; simp [intOf]; omega⟩
                    · obtain rfl : W = x := by omega
                      have x1 : ¬ (xi < wide) := by rw [HXI.out, HWI.out]; omega
                      go_wp2_with fail
                      exact ⟨⟨y + 1, yi + 1, vt, hlt, by simp, Lib.hid (by rw [HYI.out]; omega), HB, HF, HG, HR, Lib.hid (by rw [Nat.succ_mul]; exact HS.out)⟩, by have h1_ := HYI.out; simp [intOf]; omega⟩
                · obtain rfl : H = y := by omega
                  have y1 : ¬ (yi < high) := by rw [HYI.out, HHI.out]; omega
                  have gd0 := HG.out.c0
                  have gd1 := HG.out.c1
                  have hsp : simP l (gridP W H v) := HP.out
                  have hS : Kd.S (Kd.slice 2 (Kd.int .i64)) 56 wr w.heap.size (fun _ => True) vt (gridT W H) := HS.out
                  have hR := HR.out
                  obtain ⟨Ar, cr, eu⟩ := Kd.R_slice hR
                  obtain ⟨At, ct, rfl⟩ := Kd.S_slice hS
                  rw [eu] at hR
                  obtain ⟨_, p2, p3⟩ := Kd.R_reads' hR
                  obtain ⟨_, p5, p6⟩ := Kd.S_reads' hS
                  have hval := fun (W' : World) (h : Below wr.heap.size wr W') => impl_validMesh Ar cr l At ct (gridT W H) W' (Kd.C_below p3 h) (by omega) (Kd.C_below p6 h) (by omega)
                  have hl := hsp.1
                  simp only [hl] at hval eu
                  rw [hl] at hR
                  subst eu
                  have HGV := Lib.hid hval
                  have HR9 := Lib.hid hR; have HS9 := Lib.hid hS; have HSP := Lib.hid hsp
                  clear p2 p3 p5 p6 hsp hS hR hl hval HP HR HS
                  generalize gridP W H v = P at *
                  generalize gridT W H = Tn at *
                  cases hv9 : validB P.length Tn
                  · rw [hv9] at HGV
                    go_wp2_with (first
                      | (go_at_call 49; refine (HGV.out _ (Below.refl _ _)).mono ?_; rintro E w1 ⟨rfl, hb⟩; have B9 := Lib.hid (below_step HB.out hb); have hF9 := HF.out.below hb; have f0 := hF9.c0; have f1 := hF9.c1; have z0 := blk_frozen hF9 0; have z1 := blk_frozen hF9 1; clear hb; (try simp only [giveV, Bool.false_eq_true, if_false, if_true]))
                      | fail)
                    ((try simp only [Exit.inBlock, Exit.then]); refine bodyPost_ret (by simp [results, Try.results26, go_sem, f0, f1, setCell_same_of, World.cell?_setCell_other]; try rfl) rfl ?_)
                    rw [show joinV P Tn = ([], [], false) by unfold joinV; rw [hv9]; rfl]
                    exact ⟨[], none, 0, none, 0, simP_nil, rfl, ⟨Kd.R_nil _ _ _ _ _, Kd.S_nil _ _ _ _ _⟩, below_set (below_set B9.out (by omega)) (by omega)⟩
                  · rw [hv9] at HGV
                    go_wp2_with (first
                      | (go_at_call 49; refine (HGV.out _ (Below.refl _ _)).mono ?_; rintro E w1 ⟨rfl, hb⟩; have B9 := Lib.hid (below_step HB.out hb); have Q9 := Lib.hid (Kd.R_below HR9.out hb); have T9 := Lib.hid (Kd.S_below HS9.out hb); have hF9 := HF.out.below hb; have F9 := Lib.hid hF9; have f0 := hF9.c0; have f1 := hF9.c1; have z0 := blk_frozen hF9 0; have z1 := blk_frozen hF9 1; clear hb hF9; (try simp only [giveV, Bool.false_eq_true, if_false, if_true]))
                      | fail)
                    ((try simp only [Exit.inBlock, Exit.then]); refine bodyPost_ret (by simp [results, Try.results26, go_sem, f0, f1, setCell_same_of, World.cell?_setCell_other]; try rfl) rfl ?_)
                    rw [show joinV P Tn = (P, Tn, true) by unfold joinV; rw [hv9]; rfl]
                    exact ⟨l, Ar, cr, At, ct, HSP.out, rfl, ⟨R_in (R_boxset (R_boxset Q9.out F9.out (by decide) 0 _) (blk_put F9.out 0 _ rfl) (by decide) 1 _), S_in (Kd.S_set (Kd.S_set T9.out F9.out (by decide) 0 _) (blk_put F9.out 0 _ rfl) (by decide) 1 _)⟩, below_set (below_set B9.out (by omega)) (by omega)⟩
        · rw [if_neg hs]
          have HS := Lib.hid (Bool.eq_false_iff.2 hs)
          clear hs hp
          go_enter Try.func26, Try.ntmps26
          go_wp2_with (first | (go_at_call 55; first | (have hb1 := B1.out; refine (HH.out _).mono ?_; rintro E w2 ⟨rfl, hd⟩; have B2 := Lib.hid (below_step B1.out hd.below); have F2 := Lib.hid (F1.out.below hd.below); clear hd hb1; skip) | (refine (HW.out _).mono ?_; rintro E w1 ⟨rfl, hd⟩; have B1 := Lib.hid (below_step B0.out hd.below); have F1 := Lib.hid (F0.out.below hd.below); clear hd; skip)) | (go_at_call 51; refine (G8.impl_isOver _ _).mono ?_; rw [HS.out]; rintro E w3 ⟨rfl, n, e3_⟩; have hn : Below w2.heap.size w2 w3 := (by rw [e3_]; exact pw_below_drewN (Below.refl w2.heap.size w2) n); clear e3_; have B3 := Lib.hid (below_step B2.out hn); have F3 := Lib.hid (F2.out.below hn); clear hn; have hFe := F3.out; have f0 := hFe.c0; have f1 := hFe.c1; have z0 := blk_frozen hFe 0; have z1 := blk_frozen hFe 1; clear hFe; skip) | fail)
          ((try simp only [Exit.inBlock, Exit.then]); refine bodyPost_ret (by simp [results, Try.results26, go_sem, f0, f1, setCell_same_of, World.cell?_setCell_other]; try rfl) rfl ?_)
          exact ⟨[], none, 0, none, 0, simP_nil, rfl, ⟨Kd.R_nil _ _ _ _ _, Kd.S_nil _ _ _ _ _⟩, below_set (below_set B3.out (Nat.le_refl _)) (Nat.le_refl _)⟩
      · rw [decide_eq_false hp, Bool.false_and, if_neg (by simp)]
        have hp' : (64 : Int) < m := by omega
        have hp2 : decide ((64 : Int) < m) = true := decide_eq_true hp'
        clear hp
        go_enter Try.func26, Try.ntmps26
        go_wp2_with (first | (go_at_call 55; first | (have hb1 := B1.out; refine (HH.out _).mono ?_; rintro E w2 ⟨rfl, hd⟩; have B2 := Lib.hid (below_step B1.out hd.below); have F2 := Lib.hid (F1.out.below hd.below); clear hd hb1; have hFe := F2.out; have f0 := hFe.c0; have f1 := hFe.c1; have z0 := blk_frozen hFe 0; have z1 := blk_frozen hFe 1; clear hFe; skip) | (refine (HW.out _).mono ?_; rintro E w1 ⟨rfl, hd⟩; have B1 := Lib.hid (below_step B0.out hd.below); have F1 := Lib.hid (F0.out.below hd.below); clear hd; skip)) | fail)
        ((try simp only [Exit.inBlock, Exit.then]); refine bodyPost_ret (by simp [results, Try.results26, go_sem, f0, f1, setCell_same_of, World.cell?_setCell_other]; try rfl) rfl ?_)
        exact ⟨[], none, 0, none, 0, simP_nil, rfl, ⟨Kd.R_nil _ _ _ _ _, Kd.S_nil _ _ _ _ _⟩, below_set (below_set B2.out (Nat.le_refl _)) (Nat.le_refl _)⟩
    · rw [decide_eq_false hh] at HH
      have hr : gridR wide high v = ([], [], false) := by unfold gridR; rw [if_neg (by unfold gridOk; rw [decide_eq_false hh, Bool.and_false, Bool.false_and, Bool.false_and]; simp)]
      rw [hr]
      clear hr hw hh
      go_enter Try.func26, Try.ntmps26
      go_wp2_with (first | (go_at_call 55; first | (have hb1 := B1.out; refine (HH.out _).mono ?_; rintro E w2 ⟨rfl, hd⟩; have B2 := Lib.hid (below_step B1.out hd.below); have F2 := Lib.hid (F1.out.below hd.below); clear hd hb1; have hFe := F2.out; have f0 := hFe.c0; have f1 := hFe.c1; have z0 := blk_frozen hFe 0; have z1 := blk_frozen hFe 1; clear hFe; skip) | (refine (HW.out _).mono ?_; rintro E w1 ⟨rfl, hd⟩; have B1 := Lib.hid (below_step B0.out hd.below); have F1 := Lib.hid (F0.out.below hd.below); clear hd; skip)) | fail)
      ((try simp only [Exit.inBlock, Exit.then]); refine bodyPost_ret (by simp [results, Try.results26, go_sem, f0, f1, setCell_same_of, World.cell?_setCell_other]; try rfl) rfl ?_)
      exact ⟨[], none, 0, none, 0, simP_nil, rfl, ⟨Kd.R_nil _ _ _ _ _, Kd.S_nil _ _ _ _ _⟩, below_set (below_set B2.out (Nat.le_refl _)) (Nat.le_refl _)⟩
  · rw [decide_eq_false hw] at HW
    have hr : gridR wide high v = ([], [], false) := by unfold gridR; rw [if_neg (by unfold gridOk; rw [decide_eq_false hw, Bool.false_and, Bool.false_and, Bool.false_and]; simp)]
    rw [hr]
    clear hr hw
    go_enter Try.func26, Try.ntmps26
    go_wp2_with (first | (go_at_call 55; refine (HW.out _).mono ?_; rintro E w1 ⟨rfl, hd⟩; have B1 := Lib.hid (below_step B0.out hd.below); have F1 := Lib.hid (F0.out.below hd.below); clear hd; have hFe := F1.out; have f0 := hFe.c0; have f1 := hFe.c1; have z0 := blk_frozen hFe 0; have z1 := blk_frozen hFe 1; clear hFe; skip) | fail)
    ((try simp only [Exit.inBlock, Exit.then]); refine bodyPost_ret (by simp [results, Try.results26, go_sem, f0, f1, setCell_same_of, World.cell?_setCell_other]; try rfl) rfl ?_)
    exact ⟨[], none, 0, none, 0, simP_nil, rfl, ⟨Kd.R_nil _ _ _ _ _, Kd.S_nil _ _ _ _ _⟩, below_set (below_set B1.out (Nat.le_refl _)) (Nat.le_refl _)⟩

end Go.Proofs.Ytlendjpmblapkab
namespace Go.Proofs.Ytlendjpmblapkab
open Fl Go.RowKit Go.Proofs.YtlendjpmblapkabW.PrintWords Go.Proofs.YtlendjpmblapkabW.PrintLast Go.Proofs.YtlendjpmblapkabW.PrintMore Go.Proofs.Ytlendjpmblapkab.PMesh Msh
set_option linter.unusedVariables false
set_option linter.unusedSimpArgs false

set_option maxHeartbeats 4000000 in
set_option maxRecDepth 100000 in
theorem spec_l02Grid (W H v : Nat) (wide high : Int) (HWI : Hid (wide = (W : Int))) (HHI : Hid (high = (H : Int))) (W64 : W ≤ 64) (H64 : H ≤ 64) (w : World) :
    Calls Try.prog 54 #[.int .i64 wide, .int .i64 high, .float .f32 v] w (AnsG w (gridP W H v) (gridT W H)) := by
  have B0 := Lib.hid (below_alloc (Below.refl w.heap.size w) (.cells #[.slice none 0 0, .slice none 0 0] 29))
  have F0 := Lib.hid (BoxAt.new w 29 (.slice none 0 0) (.slice none 0 0))
  have ew : wrap64 (wide + 1) = wide + 1 := by have := HWI.out; exact Msh.wrap_fit (by omega) (by omega)
  have hw2 : wide ≤ 64 := by rw [HWI.out]; omega
  have hw1 : 0 ≤ wide := by rw [HWI.out]; omega
  go_enter Try.func54, Try.ntmps54
  go_wp2_with (first
    | ((with_reducible refine gate_dst (N := 14) rfl ?_); refine Kd.R_lit k40 _ 40 ?hg (N := 14) ?hd (xs := ([] : List S40)) (inner := []) (ok := fun _ => True) (okp := fun _ => True) ?hr ?hp (fun _ hk => hk) trivial (Below.refl _ _) (Nat.le_refl _) (by simp) ?_; (case hd => rfl); (case hg => rfl); (case hr => first | (go_simp; done) | (go_simp; rfl)); (case hp => exact (Reps.none _ _)); intro vu w2 ho hb hg_ hnew_; clear hg_ hnew_; obtain ⟨A4, c4, rfl⟩ := Kd.R_slice ho; have B2 := Lib.hid (below_step B0.out hb); have F2 := Lib.hid (F0.out.below hb); have Q2 := Lib.hid (Kd.R_lower ho (below_size B0.out)); clear ho hb)
    | ((with_reducible refine gate_dst (N := 15) rfl ?_); refine Kd.S_lit (Kd.slice 2 (Kd.int .i64)) _ 56 ?hg (N := 15) ?hd (xs := ([] : List (List Int))) (inner := []) (ok := fun _ => True) (okp := fun _ => True) ?hr ?hp (fun _ hk => hk) trivial (Below.refl _ _) (Nat.le_refl _) (by simp) ?_; (case hd => rfl); (case hg => rfl); (case hr => first | (go_simp; done) | (go_simp; rfl)); (case hp => exact (Reps.none _ _)); intro vt w4 ho hb hg_ hnew_; clear hg_ hnew_; obtain ⟨A5, c5, rfl⟩ := Kd.S_slice ho; have B4 := Lib.hid (below_step B2.out hb); have F4 := Lib.hid (F2.out.below hb); have Q4 := Lib.hid (Kd.R_below Q2.out hb); have T4 := Lib.hid (Kd.S_lower ho (below_size B2.out)); clear ho hb)
    | fail)
  have hgl := F4.out.lt
  obtain ⟨wA, hwA⟩ : ∃ W', W' = w4.alloc (.cells #[.slice A4 0 c4, .slice A5 0 c5] 29) := ⟨_, rfl⟩
  have hvA : Below w4.heap.size w4 wA := by rw [hwA]; exact below_alloc (Below.refl _ _) _
  have BA := Lib.hid (below_step B4.out hvA)
  have FA := Lib.hid (F4.out.below hvA)
  have GA := Lib.hid (show BoxAt wA w4.heap.size 29 (.slice A4 0 c4) (.slice A5 0 c5) by rw [hwA]; exact BoxAt.new w4 29 _ _)
  have QA := Lib.hid (Kd.R_below Q4.out hvA)
  have TA := Lib.hid (Kd.S_below T4.out hvA)
  rw [← hwA]
  clear hwA hvA B2 F2 Q2 B4 F4 Q4 T4 B0 F0
  generalize w4.heap.size = g at *
  go_loopw [8] (fun k wr => ∃ (y : Nat) (yi : Int) (u : Value) (l : List S40), y ≤ H + 1 ∧ k = .int .i64 yi ∧ Hid (yi = (y : Int)) ∧ Hid (Below w.heap.size w wr) ∧ Hid (BoxAt wr (w.heap.size) 29 (.slice none 0 0) (.slice none 0 0)) ∧ Hid (BoxAt wr g 29 u (.slice A5 0 c5)) ∧ Hid (PL v (W + 1) (y * (W + 1)) l) ∧ Hid (Kd.R k40 40 wr w.heap.size (fun _ => True) u l) ∧ Hid (Kd.S (Kd.slice 2 (Kd.int .i64)) 56 wr w.heap.size (fun _ => True) (.slice A5 0 c5) [])) (fun k _ => (H + 1) - (intOf k).toNat)
  case atStart => exact ⟨0, 0, _, [], Nat.zero_le _, rfl, Lib.hid rfl, BA, FA, GA, Lib.hid (by rw [Nat.zero_mul]; exact PL.zero _ _), QA, TA⟩
  case round =>
    clear BA FA GA QA TA
    obtain ⟨y, yi, u, l, hy, rfl, HYI, HB, HF, HG, HP, HR, HS⟩ := hrel
    by_cases hlt : y < H + 1
    · have y1 : yi < high + 1 := by rw [HYI.out, HHI.out]; omega
      have y2 : yi ≤ high := by rw [HYI.out, HHI.out]; omega
      have y3 : yi < 9223372036854775807 := by rw [HYI.out]; omega
      have y4 : (0 : Int) ≤ yi := by rw [HYI.out]; omega
      go_wp2_with fail
      go_loopw [9] (fun k wr => ∃ (x : Nat) (xi : Int) (u : Value) (l : List S40), x ≤ W + 1 ∧ k = .int .i64 xi ∧ Hid (xi = (x : Int)) ∧ Hid (Below w.heap.size w wr) ∧ Hid (BoxAt wr (w.heap.size) 29 (.slice none 0 0) (.slice none 0 0)) ∧ Hid (BoxAt wr g 29 u (.slice A5 0 c5)) ∧ Hid (PL v (W + 1) (y * (W + 1) + x) l) ∧ Hid (Kd.R k40 40 wr w.heap.size (fun _ => True) u l) ∧ Hid (Kd.S (Kd.slice 2 (Kd.int .i64)) 56 wr w.heap.size (fun _ => True) (.slice A5 0 c5) [])) (fun k _ => (W + 1) - (intOf k).toNat)
      case atStart => exact ⟨0, 0, u, l, Nat.zero_le _, rfl, Lib.hid rfl, HB, HF, HG, HP, HR, HS⟩
      case round =>
        clear HB HF HG HP HR HS
        obtain ⟨x, xi, u, l, hx, rfl, HXI, HB, HF, HG, HP, HR, HS⟩ := hrel
        by_cases hxlt : x < W + 1
        · have x1 : xi < wide + 1 := by rw [HXI.out, HWI.out]; omega
          have x2 : xi ≤ wide := by rw [HXI.out, HWI.out]; omega
          have x3 : xi < 9223372036854775807 := by rw [HXI.out]; omega
          have x4 : (0 : Int) ≤ xi := by rw [HXI.out]; omega
          have hg0 := HG.out.c0
          have hll : Hid (l.length ≤ 16384) := Lib.hid (by rw [HP.out.len]; have := Nat.mul_le_mul_right (W + 1) (show y ≤ 64 by omega); omega)
          go_wp2_with (first
            | (refine wpList_fbin (o := ⟨some 32, _, _, _, _, _⟩) rfl _ _ _ _ _ rfl (by decide) _ _ _ rfl rfl ?_; intro p np hp)
            | (refine wpList_fbin (o := ⟨some 36, _, _, _, _, _⟩) rfl _ _ _ _ _ rfl (by decide) _ _ _ rfl rfl ?_; intro q nq hq)
            | ((with_reducible refine gate_builtin (b := .append) (xs := #[.tmp 28, .tmp 38]) rfl ?_); at_builtin; refine Kd.R_append k40 (w0 := w) w.heap.size rfl (.tmp 28) (.tmp 38) 27 40 (.agg #[(.float .f32 0), (.float .f32 0), (.float .f32 0)]) 12 rfl Try.underlying27 info40 rfl (by decide) (by omega) u l ⟨p, q, 0⟩ [.float .f32 p, .float .f32 q, .float .f32 0] (fun _ => True) (fun _ => False) rfl (by first | (go_simp; done) | (go_simp; rfl)) ?aP (fun _ hk => hk.elim) ?aF ?aO ?aB ?aS ?aL ?_; (case aP => exact k40_mkM _ _ _ _); (case aB => exact pw_below_drewN HB.out _); (case aF => exact (fun _ _ => trivial)); (case aO => exact Kd.R_drewN HR.out _); (case aS => exact below_size (pw_below_drewN HB.out _)); (case aL => have := hll.out; omega); intro v1 w1 ho hb hg_ hat
               have hW : Below wr.heap.size wr (wr.drewN (np + nq)) := pw_below_drewN (Below.refl _ _) _
               have hG1 : BoxAt w1 g 29 u (.slice A5 0 c5) := blk_grown (HG.out.below hW) hg_ (Kd.R_ne HR.out HG.out (by decide))
               have F1 := Lib.hid (show BoxAt w1 (w.heap.size) 29 (.slice none 0 0) (.slice none 0 0) from blk_grown (HF.out.below hW) hg_ (Kd.R_ne HR.out HF.out (by decide)))
               have S1 := Lib.hid (Kd.S_over' (Kd.S_below HS.out hW) (Kd.R_typed (Kd.R_below HR.out hW)) (by decide) hg_)
               rw [HXI.out] at hp; rw [HYI.out] at hq; have hp1 := HP.out.step hxlt hp hq; obtain ⟨l2, hl2⟩ : ∃ l2, l2 = l ++ [(⟨p, q, 0⟩ : S40)] := ⟨_, rfl⟩; rw [← hl2] at ho hp1; obtain ⟨Av, cv, rfl⟩ := Kd.R_slice ho; have G1 := Lib.hid hG1; have R1 := Lib.hid ho; have B1 := Lib.hid hb; have P1 := Lib.hid hp1; have gs0 := hG1.c0; have gz0 := blk_frozen hG1 0; clear ho hb hg_ hat hW hG1 hg0 hp hq hp1 hl2)
            | fail)
          exact ⟨⟨x + 1, xi + 1, _, _, hxlt, by simp, Lib.hid (by rw [HXI.out]; omega), Lib.hid (below_set B1.out (by omega)), Lib.hid (blk_far F1.out (by show w.heap.size ≠ g; omega) _), Lib.hid (blk_put G1.out 0 _ rfl), P1, Lib.hid (R_boxset R1.out G1.out (by decide) 0 _), Lib.hid (Kd.S_set S1.out G1.out (by decide) 0 _)⟩, by have h1_ := HXI.out; simp [intOf]; omega⟩
        · obtain rfl : x = W + 1 := by omega
          have x1 : ¬ (xi < wide + 1) := by rw [HXI.out, HWI.out]; omega
          have x2 : ¬ (xi ≤ wide) := by rw [HXI.out, HWI.out]; omega
          go_wp2_with fail
          exact ⟨⟨y + 1, yi + 1, u, l, hlt, by simp, Lib.hid (by rw [HYI.out]; omega), HB, HF, HG, Lib.hid HP.out.row, HR, HS⟩, by have h1_ := HYI.out; simp [intOf]; omega⟩
    · obtain rfl : y = H + 1 := by omega
      have y1 : ¬ (yi < high + 1) := by rw [HYI.out, HHI.out]; omega
      have y2 : ¬ (yi ≤ high) := by rw [HYI.out, HHI.out]; omega
      go_wp2_with fail
      clear y1 y2 hlt hy
      go_loopw [10] (fun k wr => ∃ (y : Nat) (yi : Int) (vt : Value), y ≤ H ∧ k = .int .i64 yi ∧ Hid (yi = (y : Int)) ∧ Hid (Below w.heap.size w wr) ∧ Hid (BoxAt wr (w.heap.size) 29 (.slice none 0 0) (.slice none 0 0)) ∧ Hid (BoxAt wr g 29 u vt) ∧ Hid (Kd.R k40 40 wr w.heap.size (fun _ => True) u l) ∧ Hid (Kd.S (Kd.slice 2 (Kd.int .i64)) 56 wr w.heap.size (fun _ => True) vt (gridTn W (y * W)))) (fun k _ => H - (intOf k).toNat)
      case atStart => exact ⟨0, 0, _, Nat.zero_le _, rfl, Lib.hid rfl, HB, HF, HG, HR, Lib.hid (by rw [Nat.zero_mul]; exact HS.out)⟩
      case round =>
        clear HB HF HG HR HS
        obtain ⟨y, yi, vt, hy, rfl, HYI, HB, HF, HG, HR, HS⟩ := hrel
        by_cases hlt : y < H
        · have y1 : yi < high := by rw [HYI.out, HHI.out]; omega
          have y3 : yi < 9223372036854775807 := by rw [HYI.out]; omega
          have y4 : (0 : Int) ≤ yi := by rw [HYI.out]; omega
          go_wp2_with fail
          go_loopw [11] (fun k wr => ∃ (x : Nat) (xi : Int) (vt : Value), x ≤ W ∧ k = .int .i64 xi ∧ Hid (xi = (x : Int)) ∧ Hid (Below w.heap.size w wr) ∧ Hid (BoxAt wr (w.heap.size) 29 (.slice none 0 0) (.slice none 0 0)) ∧ Hid (BoxAt wr g 29 u vt) ∧ Hid (Kd.R k40 40 wr w.heap.size (fun _ => True) u l) ∧ Hid (Kd.S (Kd.slice 2 (Kd.int .i64)) 56 wr w.heap.size (fun _ => True) vt (gridTn W (y * W + x)))) (fun k _ => W - (intOf k).toNat)
          case atStart => exact ⟨0, 0, vt, Nat.zero_le _, rfl, Lib.hid rfl, HB, HF, HG, HR, HS⟩
          case round =>
            clear HB HF HG HR HS
            obtain ⟨x, xi, vt, hx, rfl, HXI, HB, HF, HG, HR, HS⟩ := hrel
            by_cases hxlt : x < W
            · have x1 : xi < wide := by rw [HXI.out, HWI.out]; omega
              have x3 : xi < 9223372036854775807 := by rw [HXI.out]; omega
              have x4 : (0 : Int) ≤ xi := by rw [HXI.out]; omega
              have hg1 := HG.out.c1
              have hq1 : (wide + 1) * yi ≤ 65 * 64 := by rw [HWI.out, HYI.out, show ((W : Int) + 1) * (y : Int) = (((W + 1) * y : Nat) : Int) by push_cast; rfl]; show _ ≤ ((65 * 64 : Nat) : Int); exact Int.ofNat_le.2 (Nat.mul_le_mul (by omega) (by omega))
              have hq0 : 0 ≤ (wide + 1) * yi := by rw [HWI.out, HYI.out, show ((W : Int) + 1) * (y : Int) = (((W + 1) * y : Nat) : Int) by push_cast; rfl]; exact Int.natCast_nonneg _
              obtain ⟨m, hm⟩ : ∃ m, m = (wide + 1) * yi := ⟨_, rfl⟩
              rw [← hm] at hq1 hq0
              have ew1 : wrap64 (wide + 1) = wide + 1 := Msh.wrap_fit (by omega) (by omega)
              have ew3 : wrap64 (xi + m) = xi + m := Msh.wrap_fit (by omega) (by omega)
              have ei1 : wrap64 (xi + m + 1) = xi + m + 1 := Msh.wrap_fit (by omega) (by omega)
              have ei2 : wrap64 (xi + m + wide) = xi + m + wide := Msh.wrap_fit (by omega) (by omega)
              have ei3 : wrap64 (xi + m + wide + 1) = xi + m + wide + 1 := Msh.wrap_fit (by omega) (by omega)
              have ei4 : wrap64 (xi + m + wide + 1 + 1) = xi + m + wide + 1 + 1 := Msh.wrap_fit (by omega) (by omega)
              have ew2 : wrap64 ((wide + 1) * yi) = m := by rw [← hm]; exact Msh.wrap_fit (by omega) (by omega)
              have hTA : triA W x y = [xi + m, xi + m + 1, xi + m + wide + 1 + 1] := by rw [hm, HXI.out, HYI.out, HWI.out]; rfl
              have hTC : triC W x y = [xi + m, xi + m + wide + 1 + 1, xi + m + wide + 1] := by rw [hm, HXI.out, HYI.out, HWI.out]; rfl
              have hts := gridTn_step W x y hxlt
              rw [hTA, hTC] at hts
              have HTS := Lib.hid hts
              have hll : Hid ((gridTn W (y * W + x)).length ≤ 16384) := Lib.hid (by rw [gridTn_len]; have := Nat.mul_le_mul_right W (show y ≤ 64 by omega); omega)
              clear hts hTA hTC hm
              go_wp2_with (first
                | ((with_reducible refine gate_dst (N := 68) rfl ?_); refine Kd.R_lit (Kd.int .i64) _ 2 ?hg (N := 68) ?hd (xs := ([xi + m, xi + m + 1, xi + m + wide + 1 + 1] : List Int)) (inner := [.int .i64 (xi + m), .int .i64 (xi + m + 1), .int .i64 (xi + m + wide + 1 + 1)]) (ok := fun _ => True) (okp := fun _ => True) ?hr ?hp (fun _ hk => hk) trivial (Below.refl _ _) (Nat.le_refl _) (by simp) ?_; (case hd => rfl); (case hg => rfl); (case hr => first | (go_simp; done) | (go_simp; rfl)); (case hp => exact (Reps.one (show Kd.M (Kd.int .i64) _ _ _ (xi + m) [.int .i64 (xi + m)] from rfl) (Reps.one (show Kd.M (Kd.int .i64) _ _ _ (xi + m + 1) [.int .i64 (xi + m + 1)] from rfl) (Reps.one (show Kd.M (Kd.int .i64) _ _ _ (xi + m + wide + 1 + 1) [.int .i64 (xi + m + wide + 1 + 1)] from rfl) (Reps.none _ _))))); intro va w2 ho hb hg_ hnew_; clear hg_ hnew_; obtain ⟨Aa, ca, rfl⟩ := Kd.R_slice ho; have B2 := Lib.hid (below_step HB.out hb); have F2 := Lib.hid (HF.out.below hb); have G2 := Lib.hid (HG.out.below hb); have R2 := Lib.hid (Kd.R_below HR.out hb); have S2 := Lib.hid (Kd.S_elder' HS.out (Kd.R_base ho) hb); have L2 := Lib.hid (Kd.R_lower ho (below_size HB.out)); have LB2 := Lib.hid (Kd.R_bound ho); clear ho hb hg1)
                | ((with_reducible refine gate_dst (N := 73) rfl ?_); refine Kd.R_lit (Kd.int .i64) _ 2 ?hg (N := 73) ?hd (xs := ([xi + m, xi + m + wide + 1 + 1, xi + m + wide + 1] : List Int)) (inner := [.int .i64 (xi + m), .int .i64 (xi + m + wide + 1 + 1), .int .i64 (xi + m + wide + 1)]) (ok := fun _ => True) (okp := fun _ => True) ?hr ?hp (fun _ hk => hk) trivial (Below.refl _ _) (Nat.le_refl _) (by simp) ?_; (case hd => rfl); (case hg => rfl); (case hr => first | (go_simp; done) | (go_simp; rfl)); (case hp => exact (Reps.one (show Kd.M (Kd.int .i64) _ _ _ (xi + m) [.int .i64 (xi + m)] from rfl) (Reps.one (show Kd.M (Kd.int .i64) _ _ _ (xi + m + wide + 1 + 1) [.int .i64 (xi + m + wide + 1 + 1)] from rfl) (Reps.one (show Kd.M (Kd.int .i64) _ _ _ (xi + m + wide + 1) [.int .i64 (xi + m + wide + 1)] from rfl) (Reps.none _ _))))); intro vc w3 ho hb hg_ hnew_; clear hg_ hnew_; obtain ⟨Ac, cc, rfl⟩ := Kd.R_slice ho; have B3 := Lib.hid (below_step B2.out hb); have F3 := Lib.hid (F2.out.below hb); have G3 := Lib.hid (G2.out.below hb); have R3 := Lib.hid (Kd.R_below R2.out hb); have S3 := Lib.hid (Kd.S_elder' S2.out (Kd.R_base ho) hb); have L3 := Lib.hid (Kd.R_below L2.out hb); have M3 := Lib.hid (Kd.R_lower ho (below_size B2.out)); have D3 := Lib.hid (show ∀ k, some k = (Value.slice Aa 3 ca).ownBlock → ¬ some k = (Value.slice Ac 3 cc).ownBlock from fun k h1 h2 => by have := (LB2.out.1 k h1.symm).2.2.1; have := Kd.R_base ho k h2.symm; omega); clear ho hb)
                | ((with_reducible refine gate_builtin (b := .append) (xs := #[.tmp 62, .tmp 74]) rfl ?_); at_builtin; refine S_append2 (Kd.slice 2 (Kd.int .i64)) rfl (w0 := w) w.heap.size rfl (.tmp 62) (.tmp 74) 23 56 (.slice none 0 0) 24 rfl Try.underlying23 info56 rfl (by omega) vt (gridTn W (y * W + x)) [xi + m, xi + m + 1, xi + m + wide + 1 + 1] [xi + m, xi + m + wide + 1 + 1, xi + m + wide + 1] (.slice Aa 3 ca) (.slice Ac 3 cc) w3.heap.size (fun _ => True) (fun k_ => some k_ = (.slice Aa 3 ca : Value).ownBlock) (fun k_ => some k_ = (.slice Ac 3 cc : Value).ownBlock) rfl (by first | (go_simp; done) | (go_simp; rfl)) ?aC ?aD ?aP ?aQ ?aN ?aM D3.out ?aF ?aO ?aB ?aS ?aL ?_
                   (case aC => exact (blk_cell (heap_alloc_new w3 (.cells #[.slice Aa 3 ca, .slice Ac 3 cc] 56)) 0).trans rfl); (case aD => exact (blk_cell (heap_alloc_new w3 (.cells #[.slice Aa 3 ca, .slice Ac 3 cc] 56)) 1).trans rfl)
                   (case aP => exact Kd.M_row (Kd.R_alloc (Kd.R_mono (Kd.R_tight rfl (Kd.R_mono (ok' := fun k_ => ((fun _ => True)) k_ ∧ some k_ ≠ (vt : Value).ownBlock) (Kd.R_apart' (L3.out) (Kd.S_typed S3.out) (by decide)) (fun k_ hk => ⟨trivial, hk.2⟩))) (fun _ h_ => h_)) (.cells #[.slice Aa 3 ca, .slice Ac 3 cc] 56))); (case aQ => exact Kd.M_row (Kd.R_alloc (Kd.R_mono (Kd.R_tight rfl (Kd.R_mono (ok' := fun k_ => ((fun _ => True)) k_ ∧ some k_ ≠ (vt : Value).ownBlock) (Kd.R_apart' (M3.out) (Kd.S_typed S3.out) (by decide)) (fun k_ hk => ⟨trivial, hk.2⟩))) (fun _ h_ => h_)) (.cells #[.slice Aa 3 ca, .slice Ac 3 cc] 56)))
                   (case aN => exact fun k_ hk_ => ((Kd.R_mono (ok' := fun k_ => ((fun _ => True)) k_ ∧ some k_ ≠ (vt : Value).ownBlock) (Kd.R_apart' (L3.out) (Kd.S_typed S3.out) (by decide)) (fun k_ hk => ⟨trivial, hk.2⟩))).1 k_ hk_.symm); (case aM => exact fun k_ hk_ => ((Kd.R_mono (ok' := fun k_ => ((fun _ => True)) k_ ∧ some k_ ≠ (vt : Value).ownBlock) (Kd.R_apart' (M3.out) (Kd.S_typed S3.out) (by decide)) (fun k_ hk => ⟨trivial, hk.2⟩))).1 k_ hk_.symm)
                   (case aF => exact (fun _ _ => trivial)); (case aB => exact below_alloc B3.out (.cells #[.slice Aa 3 ca, .slice Ac 3 cc] 56)); (case aS => exact Nat.le_trans (below_size B3.out) (Nat.le_of_lt (blk_lt (heap_alloc_new w3 (.cells #[.slice Aa 3 ca, .slice Ac 3 cc] 56))))); (case aL => have := hll.out; omega)
                   (case aO => exact Kd.S_alloc (Kd.S_mono S3.out (fun k_ hk => ⟨trivial, fun e_ => hk.1.2 e_, fun e_ => hk.2 e_⟩)) (.cells #[.slice Aa 3 ca, .slice Ac 3 cc] 56))
                   intro v1 w4 ho hb hg_ hat
                   have hW : Below w3.heap.size w3 (w3.alloc (.cells #[.slice Aa 3 ca, .slice Ac 3 cc] 56)) := below_alloc (Below.refl _ _) _
                   have hG4 : BoxAt w4 g 29 u vt := blk_grown (G3.out.below hW) hg_ (Kd.S_ne S3.out G3.out (by decide))
                   have F4 := Lib.hid (show BoxAt w4 (w.heap.size) 29 (.slice none 0 0) (.slice none 0 0) from blk_grown (F3.out.below hW) hg_ (Kd.S_ne S3.out F3.out (by decide)))
                   have R4 := Lib.hid (Kd.R_over' (Kd.R_below R3.out hW) (Kd.S_typed (Kd.S_below S3.out hW)) (by decide) hg_)
                   rw [← HTS.out] at ho
                   obtain ⟨Av, cv, rfl⟩ := Kd.S_slice ho
                   have G4 := Lib.hid hG4; have S4 := Lib.hid ho; have B4 := Lib.hid hb; have gs1 := hG4.c1; have gz1 := blk_frozen hG4 1; clear ho hb hg_ hat hW hG4)
                | fail)
              exact ⟨⟨x + 1, xi + 1, _, hxlt, by simp, Lib.hid (by rw [HXI.out]; omega), Lib.hid (below_set B4.out (by omega)), Lib.hid (blk_far F4.out (by show w.heap.size ≠ g; omega) _), Lib.hid (blk_put G4.out 1 _ rfl), Lib.hid (R_boxset R4.out G4.out (by decide) 1 _), Lib.hid (Kd.S_set S4.out G4.out (by decide) 1 _)⟩, by have h1_ := HXI.out; simp [intOf]; omega⟩
            · obtain rfl : W = x := by omega
              have x1 : ¬ (xi < wide) := by rw [HXI.out, HWI.out]; omega
              go_wp2_with fail
              exact ⟨⟨y + 1, yi + 1, vt, hlt, by simp, Lib.hid (by rw [HYI.out]; omega), HB, HF, HG, HR, Lib.hid (by rw [Nat.succ_mul]; exact HS.out)⟩, by have h1_ := HYI.out; simp [intOf]; omega⟩
        · obtain rfl : H = y := by omega
          have y1 : ¬ (yi < high) := by rw [HYI.out, HHI.out]; omega
          have gd0 := HG.out.c0
          have gd1 := HG.out.c1
          have f0 := HF.out.c0
          have f1 := HF.out.c1
          have z0 := blk_frozen HF.out 0
          have z1 := blk_frozen HF.out 1
          have hsp : simP l (gridP W H v) := HP.out
          have hS : Kd.S (Kd.slice 2 (Kd.int .i64)) 56 wr w.heap.size (fun _ => True) vt (gridT W H) := HS.out
          have hR := HR.out
          obtain ⟨Ar, cr, eu⟩ := Kd.R_slice hR
          obtain ⟨At, ct, rfl⟩ := Kd.S_slice hS
          rw [hsp.1] at eu
          subst eu
          have HR9 := Lib.hid hR; have HS9 := Lib.hid hS; have HSP := Lib.hid hsp
          clear hsp hS hR HP HR HS
          generalize gridP W H v = P at *
          generalize gridT W H = Tn at *
          go_wp2_with fail
          ((try simp only [Exit.inBlock, Exit.then]); refine bodyPost_ret (by simp [results, Try.results54, go_sem, f0, f1, setCell_same_of, World.cell?_setCell_other]; try rfl) rfl ?_)
          exact ⟨l, Ar, cr, At, ct, HSP.out, rfl, ⟨R_in (R_boxset (R_boxset HR9.out HF.out (by decide) 0 _) (blk_put HF.out 0 _ rfl) (by decide) 1 _), S_in (Kd.S_set (Kd.S_set HS9.out HF.out (by decide) 0 _) (blk_put HF.out 0 _ rfl) (by decide) 1 _)⟩, below_set (below_set HB.out (Nat.le_refl _)) (Nat.le_refl _)⟩

theorem spec_l02Give_s (P P1 : List S40) (T : List (List Int)) (hs : simP P1 P) (A B : Option Addr) (c e : Nat) (W : World) (hx : ReadM W A c P1 B e T) :
    Calls Try.prog 48 #[.agg #[.slice A P.length c, .slice B T.length e]] W fun E w' => E = .returned (.tuple #[giveV (validB P.length T) (.slice A P.length c) (.slice B T.length e), .bool (validB P.length T)]) ∧ Below W.heap.size W w' := by
  have h := spec_l02Give A c P1 B e T W hx.2.2.1 hx.2.2.2
  rw [hs.1] at h
  exact h

set_option maxHeartbeats 4000000 in
set_option maxRecDepth 100000 in
theorem spec_GridMesh (wide high : Int) (v : Nat) (w : World) :
    Calls Try.prog 25 #[.int .i64 wide, .int .i64 high, .float .f32 v] w (AnsMs w (gridR wide high v).1 (gridR wide high v).2.1 (gridR wide high v).2.2) := by
  have B0 := Lib.hid (below_alloc (Below.refl w.heap.size w) (.cells #[.slice none 0 0, .slice none 0 0] 29))
  have F0 := Lib.hid (BoxAt.new w 29 (.slice none 0 0) (.slice none 0 0))
  have HW := Lib.hid (fun (W' : World) => spec_l00In.calls wide 1 64 (decide (1 ≤ wide ∧ wide ≤ 64)) W' (bounds_f wide))
  have HH := Lib.hid (fun (W' : World) => spec_l00In.calls high 1 64 (decide (1 ≤ high ∧ high ≤ 64)) W' (bounds_f high))
  by_cases hw : 1 ≤ wide ∧ wide ≤ 64
  · rw [decide_eq_true hw] at HW
    by_cases hh : 1 ≤ high ∧ high ≤ 64
    · rw [decide_eq_true hh] at HH
      obtain ⟨hw1, hw2⟩ := hw
      obtain ⟨hh1, hh2⟩ := hh
      obtain ⟨W, hWI⟩ : ∃ W : Nat, wide = (W : Int) := ⟨wide.toNat, by omega⟩
      obtain ⟨H, hHI⟩ : ∃ H : Nat, high = (H : Int) := ⟨high.toNat, by omega⟩
      have HWI := Lib.hid hWI; have HHI := Lib.hid hHI
      have htw : wide.toNat = W := by omega
      have hth : high.toNat = H := by omega
      have ew : wrap64 (wide + 1) = wide + 1 := Msh.wrap_fit (by omega) (by omega)
      have eh : wrap64 (high + 1) = high + 1 := Msh.wrap_fit (by omega) (by omega)
      have hq1 : (wide + 1) * (high + 1) ≤ 65 * 65 := by rw [hWI, hHI, show ((W : Int) + 1) * ((H : Int) + 1) = (((W + 1) * (H + 1) : Nat) : Int) by push_cast; rfl]; show _ ≤ ((65 * 65 : Nat) : Int); exact Int.ofNat_le.2 (Nat.mul_le_mul (by omega) (by omega))
      have hq0 : 0 ≤ (wide + 1) * (high + 1) := by rw [hWI, hHI, show ((W : Int) + 1) * ((H : Int) + 1) = (((W + 1) * (H + 1) : Nat) : Int) by push_cast; rfl]; exact Int.natCast_nonneg _
      obtain ⟨m, hm⟩ : ∃ m : Int, m = (wide + 1) * (high + 1) := ⟨_, rfl⟩
      rw [← hm] at hq1 hq0
      have em : wrap64 ((wide + 1) * (high + 1)) = m := by rw [← hm]; exact Msh.wrap_fit (by omega) (by omega)
      have hok : gridOk wide high v = (decide (m ≤ 64) && G8.sizeB v) := by unfold gridOk; rw [decide_eq_true ⟨hw1, hw2⟩, decide_eq_true ⟨hh1, hh2⟩, Bool.true_and, Bool.true_and, hm]
      have hres : gridR wide high v = if (decide (m ≤ 64) && G8.sizeB v) = true then joinV (gridP W H v) (gridT W H) else ([], [], false) := by unfold gridR; rw [hok, htw, hth]
      rw [hres]
      clear hres hok hm htw hth
      have W64 : W ≤ 64 := by omega
      have H64 : H ≤ 64 := by omega
      clear hWI hHI
      by_cases hp : m ≤ 64
      · rw [decide_eq_true hp, Bool.true_and]
        have hp' : ¬ (64 : Int) < m := by omega
        have hp2 : decide ((64 : Int) < m) = false := decide_eq_false hp'
        by_cases hs : G8.sizeB v = true
        · rw [if_pos hs]
          have HS := Lib.hid hs
          clear hs hp hq0 hq1
          go_enter Try.func25, Try.ntmps25
          have HGR := Lib.hid (fun (W' : World) => spec_l02Grid W H v wide high HWI HHI W64 H64 W')
          have HGV := Lib.hid (fun (P1 : List S40) (hs : simP P1 (gridP W H v)) (A B : Option Addr) (c e : Nat) (W' : World) (hx : ReadM W' A c P1 B e (gridT W H)) => spec_l02Give_s (gridP W H v) P1 (gridT W H) hs A B c e W' hx)
          generalize gridP W H v = P at *
          generalize gridT W H = Tn at *
          cases hv9 : validB P.length Tn
          · rw [hv9] at HGV
            go_wp2_with (first
              | (go_at_call 53; first | (have hb1 := B1.out; refine (HH.out _).mono ?_; rintro E w2 ⟨rfl, hd⟩; have B2 := Lib.hid (below_step B1.out hd.below); have F2 := Lib.hid (F1.out.below hd.below); clear hd hb1; skip) | (refine (HW.out _).mono ?_; rintro E w1 ⟨rfl, hd⟩; have B1 := Lib.hid (below_step B0.out hd.below); have F1 := Lib.hid (F0.out.below hd.below); clear hd; skip))
              | (go_at_call 50; refine (G8.spec_l02Size _ _).mono ?_; rw [HS.out]; rintro E w3 ⟨rfl, n, e3_⟩; have hn : Below w2.heap.size w2 w3 := (by rw [e3_]; exact pw_below_drewN (Below.refl w2.heap.size w2) n); clear e3_; have B3 := Lib.hid (below_step B2.out hn); have F3 := Lib.hid (F2.out.below hn); clear hn; skip)
              | (go_at_call 54; refine (HGR.out _).mono ?_; rintro E w4 ⟨P1, Ar, cr, At, ct, hs, rfl, hx, hb⟩; have B4 := Lib.hid (below_step B3.out hb); have F4 := Lib.hid (F3.out.below hb); have X4 := Lib.hid hx; have S4 := Lib.hid hs; clear hx hb hs)
              | (go_at_call 48; refine (HGV.out _ S4.out _ _ _ _ _ (OwnM.readn S4.out X4.out)).mono ?_; rintro E w5 ⟨rfl, hb⟩; have B5 := Lib.hid (below_step B4.out hb); have hF5 := F4.out.below hb; have f0 := hF5.c0; have f1 := hF5.c1; have z0 := blk_frozen hF5 0; have z1 := blk_frozen hF5 1; clear hb; (try simp only [giveV, Bool.false_eq_true, if_false, if_true]))
              | fail)
            ((try simp only [Exit.inBlock, Exit.then]); refine bodyPost_ret (by simp [results, Try.results25, go_sem, f0, f1, setCell_same_of, World.cell?_setCell_other]; try rfl) rfl ?_)
            rw [show joinV P Tn = ([], [], false) by unfold joinV; rw [hv9]; rfl]
            exact ⟨[], none, 0, none, 0, simP_nil, rfl, ⟨Kd.R_nil _ _ _ _ _, Kd.S_nil _ _ _ _ _⟩, below_set (below_set B5.out (Nat.le_refl _)) (Nat.le_refl _)⟩
          · rw [hv9] at HGV
            go_wp2_with (first
              | (go_at_call 53; first | (have hb1 := B1.out; refine (HH.out _).mono ?_; rintro E w2 ⟨rfl, hd⟩; have B2 := Lib.hid (below_step B1.out hd.below); have F2 := Lib.hid (F1.out.below hd.below); clear hd hb1; skip) | (refine (HW.out _).mono ?_; rintro E w1 ⟨rfl, hd⟩; have B1 := Lib.hid (below_step B0.out hd.below); have F1 := Lib.hid (F0.out.below hd.below); clear hd; skip))
              | (go_at_call 50; refine (G8.spec_l02Size _ _).mono ?_; rw [HS.out]; rintro E w3 ⟨rfl, n, e3_⟩; have hn : Below w2.heap.size w2 w3 := (by rw [e3_]; exact pw_below_drewN (Below.refl w2.heap.size w2) n); clear e3_; have B3 := Lib.hid (below_step B2.out hn); have F3 := Lib.hid (F2.out.below hn); clear hn; skip)
              | (go_at_call 54; refine (HGR.out _).mono ?_; rintro E w4 ⟨P1, Ar, cr, At, ct, hs, rfl, hx, hb⟩; have hl3 := B3.out.size; have B4 := Lib.hid (below_step B3.out hb); have F4 := Lib.hid (F3.out.below hb); have X4 := Lib.hid hx; have S4 := Lib.hid hs; clear hx hb hs)
              | (go_at_call 48; refine (HGV.out _ S4.out _ _ _ _ _ (OwnM.readn S4.out X4.out)).mono ?_; rintro E w5 ⟨rfl, hb⟩; have B5 := Lib.hid (below_step B4.out hb); have X5 := Lib.hid (X4.out.below hb); have hF5 := F4.out.below hb; have F5 := Lib.hid hF5; have f0 := hF5.c0; have f1 := hF5.c1; have z0 := blk_frozen hF5 0; have z1 := blk_frozen hF5 1; clear hb hF5; (try simp only [giveV, Bool.false_eq_true, if_false, if_true]))
              | fail)
            ((try simp only [Exit.inBlock, Exit.then]); refine bodyPost_ret (by simp [results, Try.results25, go_sem, f0, f1, setCell_same_of, World.cell?_setCell_other]; try rfl) rfl ?_)
            rw [show joinV P Tn = (P, Tn, true) by unfold joinV; rw [hv9]; rfl]
            exact ⟨P1, Ar, cr, At, ct, S4.out, rfl, ⟨R_in (Kd.R_lower (R_boxset (R_boxset (Kd.R_mono X5.out.1 (fun _ _ => trivial)) F5.out (by decide) 0 _) (blk_put F5.out 0 _ rfl) (by decide) 1 _) (by exact hl3)), S_in (Kd.S_lower (Kd.S_set (Kd.S_set (Kd.S_mono X5.out.2 (fun _ _ => trivial)) F5.out (by decide) 0 _) (blk_put F5.out 0 _ rfl) (by decide) 1 _) (by exact hl3))⟩, below_set (below_set B5.out (Nat.le_refl _)) (Nat.le_refl _)⟩
        · rw [if_neg hs]
          have HS := Lib.hid (Bool.eq_false_iff.2 hs)
          clear hs hp
          go_enter Try.func25, Try.ntmps25
          go_wp2_with (first | (go_at_call 53; first | (have hb1 := B1.out; refine (HH.out _).mono ?_; rintro E w2 ⟨rfl, hd⟩; have B2 := Lib.hid (below_step B1.out hd.below); have F2 := Lib.hid (F1.out.below hd.below); clear hd hb1; skip) | (refine (HW.out _).mono ?_; rintro E w1 ⟨rfl, hd⟩; have B1 := Lib.hid (below_step B0.out hd.below); have F1 := Lib.hid (F0.out.below hd.below); clear hd; skip)) | (go_at_call 50; refine (G8.spec_l02Size _ _).mono ?_; rw [HS.out]; rintro E w3 ⟨rfl, n, e3_⟩; have hn : Below w2.heap.size w2 w3 := (by rw [e3_]; exact pw_below_drewN (Below.refl w2.heap.size w2) n); clear e3_; have B3 := Lib.hid (below_step B2.out hn); have F3 := Lib.hid (F2.out.below hn); clear hn; have hFe := F3.out; have f0 := hFe.c0; have f1 := hFe.c1; have z0 := blk_frozen hFe 0; have z1 := blk_frozen hFe 1; clear hFe; skip) | fail)
          ((try simp only [Exit.inBlock, Exit.then]); refine bodyPost_ret (by simp [results, Try.results25, go_sem, f0, f1, setCell_same_of, World.cell?_setCell_other]; try rfl) rfl ?_)
          exact ⟨[], none, 0, none, 0, simP_nil, rfl, ⟨Kd.R_nil _ _ _ _ _, Kd.S_nil _ _ _ _ _⟩, below_set (below_set B3.out (Nat.le_refl _)) (Nat.le_refl _)⟩
      · rw [decide_eq_false hp, Bool.false_and, if_neg (by simp)]
        have hp' : (64 : Int) < m := by omega
        have hp2 : decide ((64 : Int) < m) = true := decide_eq_true hp'
        clear hp
        cases hsv : G8.sizeB v
        · have HS := Lib.hid hsv
          clear hsv
          go_enter Try.func25, Try.ntmps25
          go_wp2_with (first | (go_at_call 53; first | (have hb1 := B1.out; refine (HH.out _).mono ?_; rintro E w2 ⟨rfl, hd⟩; have B2 := Lib.hid (below_step B1.out hd.below); have F2 := Lib.hid (F1.out.below hd.below); clear hd hb1; skip) | (refine (HW.out _).mono ?_; rintro E w1 ⟨rfl, hd⟩; have B1 := Lib.hid (below_step B0.out hd.below); have F1 := Lib.hid (F0.out.below hd.below); clear hd; skip)) | (go_at_call 50; refine (G8.spec_l02Size _ _).mono ?_; rw [HS.out]; rintro E w3 ⟨rfl, n, e3_⟩; have hn : Below w2.heap.size w2 w3 := (by rw [e3_]; exact pw_below_drewN (Below.refl w2.heap.size w2) n); clear e3_; have B3 := Lib.hid (below_step B2.out hn); have F3 := Lib.hid (F2.out.below hn); clear hn; have hFe := F3.out; have f0 := hFe.c0; have f1 := hFe.c1; have z0 := blk_frozen hFe 0; have z1 := blk_frozen hFe 1; clear hFe; skip) | fail)
          ((try simp only [Exit.inBlock, Exit.then]); refine bodyPost_ret (by simp [results, Try.results25, go_sem, f0, f1, setCell_same_of, World.cell?_setCell_other]; try rfl) rfl ?_)
          exact ⟨[], none, 0, none, 0, simP_nil, rfl, ⟨Kd.R_nil _ _ _ _ _, Kd.S_nil _ _ _ _ _⟩, below_set (below_set B3.out (Nat.le_refl _)) (Nat.le_refl _)⟩
        · have HS := Lib.hid hsv
          clear hsv
          go_enter Try.func25, Try.ntmps25
          go_wp2_with (first | (go_at_call 53; first | (have hb1 := B1.out; refine (HH.out _).mono ?_; rintro E w2 ⟨rfl, hd⟩; have B2 := Lib.hid (below_step B1.out hd.below); have F2 := Lib.hid (F1.out.below hd.below); clear hd hb1; skip) | (refine (HW.out _).mono ?_; rintro E w1 ⟨rfl, hd⟩; have B1 := Lib.hid (below_step B0.out hd.below); have F1 := Lib.hid (F0.out.below hd.below); clear hd; skip)) | (go_at_call 50; refine (G8.spec_l02Size _ _).mono ?_; rw [HS.out]; rintro E w3 ⟨rfl, n, e3_⟩; have hn : Below w2.heap.size w2 w3 := (by rw [e3_]; exact pw_below_drewN (Below.refl w2.heap.size w2) n); clear e3_; have B3 := Lib.hid (below_step B2.out hn); have F3 := Lib.hid (F2.out.below hn); clear hn; have hFe := F3.out; have f0 := hFe.c0; have f1 := hFe.c1; have z0 := blk_frozen hFe 0; have z1 := blk_frozen hFe 1; clear hFe; skip) | fail)
          ((try simp only [Exit.inBlock, Exit.then]); refine bodyPost_ret (by simp [results, Try.results25, go_sem, f0, f1, setCell_same_of, World.cell?_setCell_other]; try rfl) rfl ?_)
          exact ⟨[], none, 0, none, 0, simP_nil, rfl, ⟨Kd.R_nil _ _ _ _ _, Kd.S_nil _ _ _ _ _⟩, below_set (below_set B3.out (Nat.le_refl _)) (Nat.le_refl _)⟩
    · rw [decide_eq_false hh] at HH
      have hr : gridR wide high v = ([], [], false) := by unfold gridR; rw [if_neg (by unfold gridOk; rw [decide_eq_false hh, Bool.and_false, Bool.false_and, Bool.false_and]; simp)]
      rw [hr]
      clear hr hw hh
      go_enter Try.func25, Try.ntmps25
      go_wp2_with (first | (go_at_call 53; first | (have hb1 := B1.out; refine (HH.out _).mono ?_; rintro E w2 ⟨rfl, hd⟩; have B2 := Lib.hid (below_step B1.out hd.below); have F2 := Lib.hid (F1.out.below hd.below); clear hd hb1; have hFe := F2.out; have f0 := hFe.c0; have f1 := hFe.c1; have z0 := blk_frozen hFe 0; have z1 := blk_frozen hFe 1; clear hFe; skip) | (refine (HW.out _).mono ?_; rintro E w1 ⟨rfl, hd⟩; have B1 := Lib.hid (below_step B0.out hd.below); have F1 := Lib.hid (F0.out.below hd.below); clear hd; skip)) | fail)
      ((try simp only [Exit.inBlock, Exit.then]); refine bodyPost_ret (by simp [results, Try.results25, go_sem, f0, f1, setCell_same_of, World.cell?_setCell_other]; try rfl) rfl ?_)
      exact ⟨[], none, 0, none, 0, simP_nil, rfl, ⟨Kd.R_nil _ _ _ _ _, Kd.S_nil _ _ _ _ _⟩, below_set (below_set B2.out (Nat.le_refl _)) (Nat.le_refl _)⟩
  · rw [decide_eq_false hw] at HW
    have hr : gridR wide high v = ([], [], false) := by unfold gridR; rw [if_neg (by unfold gridOk; rw [decide_eq_false hw, Bool.false_and, Bool.false_and, Bool.false_and]; simp)]
    rw [hr]
    clear hr hw
    go_enter Try.func25, Try.ntmps25
    go_wp2_with (first | (go_at_call 53; refine (HW.out _).mono ?_; rintro E w1 ⟨rfl, hd⟩; have B1 := Lib.hid (below_step B0.out hd.below); have F1 := Lib.hid (F0.out.below hd.below); clear hd; have hFe := F1.out; have f0 := hFe.c0; have f1 := hFe.c1; have z0 := blk_frozen hFe 0; have z1 := blk_frozen hFe 1; clear hFe; skip) | fail)
    ((try simp only [Exit.inBlock, Exit.then]); refine bodyPost_ret (by simp [results, Try.results25, go_sem, f0, f1, setCell_same_of, World.cell?_setCell_other]; try rfl) rfl ?_)
    exact ⟨[], none, 0, none, 0, simP_nil, rfl, ⟨Kd.R_nil _ _ _ _ _, Kd.S_nil _ _ _ _ _⟩, below_set (below_set B1.out (Nat.le_refl _)) (Nat.le_refl _)⟩

end Go.Proofs.Ytlendjpmblapkab
namespace Go.Proofs.Ytlendjpmblapkab
open Fl Go.RowKit Go.Proofs.YtlendjpmblapkabW.PrintWords Go.Proofs.Ytlendjpmblapkab.PMesh Msh
set_option linter.unusedVariables false

set_option maxHeartbeats 4000000 in
set_option maxRecDepth 100000 in
theorem fnExactGridMesh_walk (w : World) (a0 : Int) (wa0 : IntKind.i64.min ≤ a0 ∧ a0 ≤ IntKind.i64.max) (a1 : Int) (wa1 : IntKind.i64.min ≤ a1 ∧ a1 ≤ IntKind.i64.max) (v0 : Nat) (wv0 : v0 < 2 ^ 32) :
    Calls Try.prog 8 #[.int .i64 a0, .int .i64 a1, .float .f32 v0] w fun e w' => e = .returned (.bool true) ∧ Below w.heap.size w w' := by
  have h1 : ∀ W, Calls Try.prog 25 #[.int .i64 a0, .int .i64 a1, .float .f32 v0] W (AnsRs W (gridR a0 a1 v0).1 (gridR a0 a1 v0).2.1 (gridR a0 a1 v0).2.2) := fun W => (spec_GridMesh a0 a1 v0 W).mono (fun E w' h => h.r)
  have h2 : ∀ W, Calls Try.prog 26 #[.int .i64 a0, .int .i64 a1, .float .f32 v0] W (AnsMs W (gridR a0 a1 v0).1 (gridR a0 a1 v0).2.1 (gridR a0 a1 v0).2.2) := fun W => impl_GridMesh a0 a1 v0 W
  have hs := grid_small a0 a1 v0
  generalize gridR a0 a1 v0 = R at *
  obtain ⟨P, T, b⟩ := R
  dsimp only at h1 h2 hs
  have H1 := Lib.hid h1
  have H2 := Lib.hid h2
  have hb1 := hs.1
  have HT1 := Lib.hid hs.2.1
  have HT2 := Lib.hid hs.2.2
  have htot := tot_le T hs.2.2
  have htm := hs.2.1
  have hk1 : ¬ (1 + 3 * (P.length : Int) + (tot T : Int)) < 0 := by omega
  clear h1 h2 hs htot htm wa0 wa1 wv0
  go_enter Try.func8, Try.ntmps8
  go_wp2_with (first
    | (go_at_call 25; refine (H1.out _).mono ?_; rintro E w1 ⟨PW, A1, c1, B1, e1, hs, rfl, hx, hb⟩; have z1 := hb.size; have SW := Lib.hid hs
       have hv := below_alloc (Below.refl w1.heap.size w1) (.cells #[.slice A1 P.length c1, .slice B1 T.length e1] 29)
       have hn := BoxAt.new w1 29 (.slice A1 P.length c1) (.slice B1 T.length e1)
       obtain ⟨w2, hw2⟩ : ∃ w2, w2 = w1.alloc (.cells #[.slice A1 P.length c1, .slice B1 T.length e1] 29) := ⟨_, rfl⟩
       rw [← hw2] at hv hn; have z2 := hv.size; have y2 := hn.lt
       have W2 := Lib.hid (hx.below hv); have BW2 := Lib.hid hn; have K1 := Lib.hid hb; have K2 := Lib.hid (below_then hb hv hb.size); have WW2 := Lib.hid hw2; clear hb hx hv hn hw2 hs)
    | (go_at_call 26; first
       | (have k7 := K7.out; refine (H2.out _).mono ?_; rintro E w8 ⟨PH, A8, c8, B8, e8, hs, rfl, hx, hb⟩; have z8 := hb.size; have SH := Lib.hid hs
          have W8 := Lib.hid (W7.out.below hb); have G8 := Lib.hid (G7.out.below hb); have BW8 := Lib.hid (BW7.out.below hb); have bwc8 := BW8.out.c0; have bwd8 := BW8.out.c1; (try clear bwc7 bwd7); have BG8 := Lib.hid (BG7.out.below hb); have bgc8 := BG8.out.c0; have bgd8 := BG8.out.c1; (try clear bgc7 bgd7); 
          have K8 := Lib.hid (below_then K7.out hb K7.out.size)
          have hv := below_alloc (Below.refl w8.heap.size w8) (.cells #[.slice A8 P.length c8, .slice B8 T.length e8] 29)
          have hn := BoxAt.new w8 29 (.slice A8 P.length c8) (.slice B8 T.length e8)
          have hm := BW8.out.below hv
          have u0 := hn.c0; have u1 := hn.c1; have v0_ := hm.c0; have v1_ := hm.c1
          obtain ⟨w9, hw9⟩ : ∃ w9, w9 = w8.alloc (.cells #[.slice A8 P.length c8, .slice B8 T.length e8] 29) := ⟨_, rfl⟩
          rw [← hw9] at hv; have z9 := hv.size; have H9 := Lib.hid (hx.below hv); have W9 := Lib.hid (W8.out.below hv); have G9 := Lib.hid (G8.out.below hv); have BW9 := Lib.hid (BW8.out.below hv); have bwc9 := BW9.out.c0; have bwd9 := BW9.out.c1; (try clear bwc8 bwd8); have BG9 := Lib.hid (BG8.out.below hv); have bgc9 := BG9.out.c0; have bgd9 := BG9.out.c1; (try clear bgc8 bgd8); 
          have K9 := Lib.hid (below_then K8.out hv K8.out.size); have WW9 := Lib.hid hw9; clear hb hx hv hn hm hw9 hs k7)
       | (rw [← WW2.out]; refine (H2.out _).mono ?_; rintro E w3 ⟨PG, A3, c3, B3, e3, hs, rfl, hx, hb⟩; have z3 := hb.size; have SG := Lib.hid hs
          have W3 := Lib.hid (W2.out.below hb); have BW3 := Lib.hid (BW2.out.below hb); have bwc3 := BW3.out.c0; have bwd3 := BW3.out.c1; (try clear bwc2 bwd2); 
          have K3 := Lib.hid (below_then K2.out hb K2.out.size)
          have hv := below_alloc (Below.refl w3.heap.size w3) (.cells #[.slice A3 P.length c3, .slice B3 T.length e3] 29)
          have hn := BoxAt.new w3 29 (.slice A3 P.length c3) (.slice B3 T.length e3)
          have hm := BW3.out.below hv
          have u0 := hn.c0; have u1 := hn.c1; have v0_ := hm.c0; have v1_ := hm.c1
          obtain ⟨w4, hw4⟩ : ∃ w4, w4 = w3.alloc (.cells #[.slice A3 P.length c3, .slice B3 T.length e3] 29) := ⟨_, rfl⟩
          rw [← hw4] at hv; have z4 := hv.size; have G4 := Lib.hid (hx.below hv); have W4 := Lib.hid (W3.out.below hv); have BW4 := Lib.hid (BW3.out.below hv); have bwc4 := BW4.out.c0; have bwd4 := BW4.out.c1; (try clear bwc3 bwd3); 
          have hn4 := hn; rw [← hw4] at hn4; have BG4 := Lib.hid hn4; have y4 := hn4.lt
          have K4 := Lib.hid (below_then K3.out hv K3.out.size); have WW4 := Lib.hid hw4; clear hb hx hv hn hm hn4 hw4 hs))
    | (go_at_call 13; first
       | (rw [← WW9.out]; refine (eqr_step P _ _ T SH.out SW.out hb1 HT1.out HT2.out _ _ _ _ _ _ _ _ _ (OwnM.readn SH.out H9.out) (RefM.readn SW.out W9.out)).mono ?_; rintro E w10 ⟨rfl, hb⟩; have z10 := hb.size; have G10 := Lib.hid (G9.out.below hb); have BG10 := Lib.hid (BG9.out.below hb); have bgc10 := BG10.out.c0; have bgd10 := BG10.out.c1; (try clear bgc9 bgd9); have K10 := Lib.hid (below_then K9.out hb K9.out.size); clear hb u0 u1 v0_ v1_)
       | (rw [← WW4.out]; refine (eqr_step P _ _ T SG.out SW.out hb1 HT1.out HT2.out _ _ _ _ _ _ _ _ _ (OwnM.readn SG.out G4.out) (RefM.readn SW.out W4.out)).mono ?_; rintro E w5 ⟨rfl, hb⟩; have z5 := hb.size; have W5 := Lib.hid (W4.out.below hb); have G5 := Lib.hid (G4.out.below hb); have BW5 := Lib.hid (BW4.out.below hb); have bwc5 := BW5.out.c0; have bwd5 := BW5.out.c1; (try clear bwc4 bwd4); have BG5 := Lib.hid (BG4.out.below hb); have bgc5 := BG5.out.c0; have bgd5 := BG5.out.c1; (try clear bgc4 bgd4); have K5 := Lib.hid (below_then K4.out hb K4.out.size); clear hb u0 u1 v0_ v1_))
    | (go_at_call 14; refine (markMs_step P _ T SG.out hb1 HT1.out HT2.out 1 (by omega) (by omega) _ _ _ _ _ _ _ G5.out w K5.out (by omega) (by omega)).mono ?_; rintro E w6 ⟨rfl, hx, hk, hb⟩; have z6 := hk.1; have W6 := Lib.hid (W5.out.kept hk (by omega)); have BW6 := Lib.hid (BW5.out.kept hk (by omega)); have bwc6 := BW6.out.c0; have bwd6 := BW6.out.c1; (try clear bwc5 bwd5); have BG6 := Lib.hid (BG5.out.kept hk (by omega)); have bgc6 := BG6.out.c0; have bgd6 := BG6.out.c1; (try clear bgc5 bgd5); have G6 := Lib.hid hx; have K6 := Lib.hid hb; clear hx hk hb)
    | (go_at_call 15; first
       | (refine (heldM_step P T hb1 HT1.out HT2.out 1 (by omega) (by omega) _ _ _ _ _ _ _ G10.out).mono ?_; rintro E w11 ⟨rfl, hb⟩; have K11 := Lib.hid (below_then K10.out hb K10.out.size); clear hb)
       | (refine (heldM_step P T hb1 HT1.out HT2.out 1 (by omega) (by omega) _ _ _ _ _ _ _ G6.out).mono ?_; rintro E w7 ⟨rfl, hb⟩; have z7 := hb.size; have W7 := Lib.hid (W6.out.below hb); have G7 := Lib.hid (G6.out.below hb); have BW7 := Lib.hid (BW6.out.below hb); have bwc7 := BW7.out.c0; have bwd7 := BW7.out.c1; (try clear bwc6 bwd6); have BG7 := Lib.hid (BG6.out.below hb); have bgc7 := BG7.out.c0; have bgd7 := BG7.out.c1; (try clear bgc6 bgd6); have K7 := Lib.hid (below_then K6.out hb K6.out.size); clear hb))
    | fail)
  go_ret
  exact ⟨rfl, K11.out⟩

end Go.Proofs.Ytlendjpmblapkab
namespace Go.Proofs.Ytlendjpmblapkab
open Go.ChangeShapes Go.WideShapes Go.ChangeAt Go.RowKit Go.Deep
open Go.ChangeMaps (open_string shut_string)

/-- A row of cells that can be read from A on; nil has none. -/
def RowIn (w : World) (A : Option Addr) (cs : List Value) : Prop :=
  (A = none ∧ cs = []) ∨ ∃ b off, A = some ⟨b, off, none⟩ ∧ b < w.heap.size ∧ ∀ i v, cs[i]? = some v → w.cell? ⟨b, off + i, none⟩ = some v

section
variable {H : Type} {enc : TypeId × Value → H} {P : Program} {w : World} {base : Nat} {spare : Nat → Bool} {held : Bool}

theorem flt_lt {k : FloatKind} {b : Nat} (h : (Lit.float k b).wf = true) : b < 2 ^ k.format.width := by
  cases k
  · show b < 4294967296; simpa [Lit.wf] using h
  · show b < 18446744073709551616; simpa [Lit.wf] using h

theorem op_float {r : Reach} {b0 : Nat} {t : TypeId} {k : FloatKind} {v : Value} {d : DataW H} {ps : List MemPlace} (ht : P.underlying t = some (.float k)) (hval : Value.okWide P w r b0 t v) (hd : DataW.Trod enc P w base spare held t v d ps) :
    ∃ b, b < 2 ^ k.format.width ∧ v = .float k b := by
  obtain ⟨b, rfl, _, _, hw⟩ := open_float ht hval hd
  exact ⟨b, flt_lt hw, rfl⟩

theorem op_int {r : Reach} {b0 : Nat} {t : TypeId} {k : IntKind} {v : Value} {d : DataW H} {ps : List MemPlace} (ht : P.underlying t = some (.int k)) (hval : Value.okWide P w r b0 t v) (hd : DataW.Trod enc P w base spare held t v d ps) :
    ∃ n, (k.min ≤ n ∧ n ≤ k.max) ∧ v = .int k n := by
  obtain ⟨n, rfl, _, _, hw⟩ := open_int ht hval hd
  exact ⟨n, by simpa [Lit.wf] using hw, rfl⟩

theorem op_string {r : Reach} {b0 : Nat} {t : TypeId} {v : Value} {d : DataW H} {ps : List MemPlace} (ht : P.underlying t = some .string) (hval : Value.okWide P w r b0 t v) (hd : DataW.Trod enc P w base spare held t v d ps) :
    ∃ s : ByteArray, s.size ≤ maxLen ∧ v = .string s := by
  obtain ⟨s, rfl, _, _, hw⟩ := open_string ht hval hd
  exact ⟨s, hw, rfl⟩

theorem trod_float {t : TypeId} {k : FloatKind} {n : Nat} {v : Value} {x : DataW H × List MemPlace} (ht : P.underlying t = some (.float k)) (h : DataW.trod enc P w base spare held n t [v] = some x) :
    ∃ b, b < 2 ^ k.format.width ∧ v = .float k b := by
  cases n with
  | zero => simp [DataW.trod] at h
  | succ n =>
    simp only [DataW.trod, ht] at h
    cases v <;> simp at h
    rename_i k' b
    obtain ⟨⟨rfl, hw⟩, _⟩ := h
    exact ⟨b, flt_lt hw, rfl⟩

theorem op_vec {r : Reach} {b0 : Nat} {t f : TypeId} {F : Array Field} {v : Value} {d : DataW H} {p : List MemPlace} (hs : P.underlying t = some (.struct F)) (hf : P.underlying f = some (.float .f32))
    (hF : (F.map (·.type)) = #[f, f, f]) (hone0 : oneCellFields P F = true) (hC : P.cellsOf t = 3)
    (hv : Value.okWide P w r b0 t v) (h : DataW.Trod enc P w base spare held t v d p) :
    ∃ x y z : Nat, x < 2 ^ 32 ∧ y < 2 ^ 32 ∧ z < 2 ^ 32 ∧ v = .agg #[.float .f32 x, .float .f32 y, .float .f32 z] := by
  obtain ⟨F⟩ := F
  have hl : F.length = 3 := by simpa using congrArg Array.size hF
  match F, hl with
  | [f0, f1, f2], _ =>
    simp at hF
    obtain ⟨e0, e1, e2⟩ := hF
    have hone : oneCellFields P #[f0, f1, f2] = true := hone0
    obtain ⟨v0, v1, v2, y0, y1, y2, n, rfl, _, _, t0, t1, t2⟩ := Joins.open_agg3 hs hone hC hv h
    rw [e0] at t0; rw [e1] at t1; rw [e2] at t2
    obtain ⟨x, hx, rfl⟩ := trod_float hf t0
    obtain ⟨y, hy, rfl⟩ := trod_float hf t1
    obtain ⟨z, hz, rfl⟩ := trod_float hf t2
    exact ⟨x, y, z, hx, hy, hz, rfl⟩
end
end Go.Proofs.Ytlendjpmblapkab
