/-
  The proof's texts, one behind the other: XM1 XMmark XMrows XM2 XMlaw XMheld XMbox XMturn XMref XMtl XOpen XMopen.
-/
import Derived.Test.YtlendjpmblapkabFw
import Derived.Test.YtlendjpmblapkabPMeshx4
import Derived.Test.YtlendjpmblapkabPMeshx9
import Derived.Test.YtlendjpmblapkabPMeshx15
import Derived.Test.YtlendjpmblapkabPMeshx24
import Derived.Test.YtlendjpmblapkabPMeshx28
import Derived.Test.YtlendjpmblapkabPMeshx16
import Derived.Lib.Hide
import Derived.OwnWalk
import Derived.Test.YtlendjpmblapkabPMeshx18
import Derived.Test.YtlendjpmblapkabPMeshx21
import Derived.Test.YtlendjpmblapkabG8
import Derived.Test.YtlendjpmblapkabPMeshx33
import Derived.Test.YtlendjpmblapkabPMeshx29
import Derived.Test.YtlendjpmblapkabPMeshx40
import Derived.Deep.RegionHeld3
import Derived.Laws.Cover2
import Derived.ProofKit
import Derived.WalkKit
import Derived.OpenShut
import Derived.Lib.SmallJoins
import Derived.Deep.Slices
import Derived.ChangeSame
namespace Go.Proofs.Ytlendjpmblapkab.Msh
open Fl Go.RowKit Go.Proofs.YtlendjpmblapkabW.PrintWords Go.Proofs.Ytlendjpmblapkab.PMesh
set_option linter.unusedVariables false
set_option linter.unusedSimpArgs false

theorem wrap_fit {x : Int} (h0 : -9223372036854775808 ≤ x) (h1 : x ≤ 9223372036854775807) : wrap64 x = x := by unfold wrap64; omega

theorem rdI (l : List Int) (i : Nat) (h : i < l.length) : rd l (i : Int) = l[i] := by
  unfold rd
  rw [Int.toNat_natCast, List.getD_eq_getElem?_getD, List.getElem?_eq_getElem h]; rfl
theorem rdL (l : List (List Int)) (i : Nat) (h : i < l.length) : rd_L3 l (i : Int) = l[i] := by
  unfold rd_L3
  rw [Int.toNat_natCast, List.getD_eq_getElem?_getD, List.getElem?_eq_getElem h]; rfl
theorem rdV (l : List S40) (i : Nat) (h : i < l.length) : rd_T40 l (i : Int) = l[i] := by
  unfold rd_T40
  rw [Int.toNat_natCast, List.getD_eq_getElem?_getD, List.getElem?_eq_getElem h]; rfl
theorem rdW (l : List S38) (i : Nat) (h : i < l.length) : rd_T38 l (i : Int) = l[i] := by
  unfold rd_T38
  rw [Int.toNat_natCast, List.getD_eq_getElem?_getD, List.getElem?_eq_getElem h]; rfl

theorem up (i : Nat) (h : i ≤ 9223372036854775806) : wrap64 ((i : Int) + 1) = ((i + 1 : Nat) : Int) := by rw [wrap_fit (by omega) (by omega)]; omega

/-! sizes -/
theorem sz_loop (T : List (List Int)) (hr : ∀ t ∈ T, t.length ≤ 9223372036854775807) (hT : T.length ≤ 1048576) (d : Nat) : ∀ (k i : Nat) (a : Int), i ≤ T.length → T.length - i = d → d < k → 0 ≤ a → a ≤ 1048576 →
    ∃ r, laws_szInt64SS.l0 k T a (i : Int) = some r ∧ r ≤ 1048576 ∧ (0 ≤ r → ∀ j, i ≤ j → (h : j < T.length) → T[j].length ≤ 1048576) := by
  induction d with
  | zero =>
    intro k i a hi hd hk h0 h1
    obtain ⟨k, rfl⟩ : ∃ j, k = j + 1 := ⟨k - 1, by omega⟩
    simp only [laws_szInt64SS.l0]
    rw [if_neg (by omega)]
    exact ⟨a, rfl, h1, fun _ j hij hj => by omega⟩
  | succ d ih =>
    intro k i a hi hd hk h0 h1
    obtain ⟨k, rfl⟩ : ∃ j, k = j + 1 := ⟨k - 1, by omega⟩
    have hlt : i < T.length := by omega
    have hl := hr T[i] (List.getElem_mem hlt)
    simp only [laws_szInt64SS.l0]
    rw [if_pos (by omega), if_pos (by omega), rdL T i hlt]
    unfold laws_szInt64S.f
    rw [wrap_fit (by omega) (by omega)]
    by_cases hneg : a - (T[i].length : Int) < 0
    · rw [if_pos hneg]
      simp only [Option.bind_some]
      rw [if_pos (by decide)]
      exact ⟨-1, rfl, by decide, fun h => by omega⟩
    · rw [if_neg hneg]
      simp only [Option.bind_some]
      rw [if_neg hneg, up i (by omega)]
      obtain ⟨r, e, hr1, h⟩ := ih k (i + 1) (a - (T[i].length : Int)) (by omega) (by omega) (by omega) (by omega) (by omega)
      refine ⟨r, e, hr1, fun h0 j hij hj => ?_⟩
      rcases Nat.lt_or_ge i j with hlt' | hge
      · exact h h0 j hlt' hj
      · obtain rfl : i = j := by omega
        omega

theorem szMesh_f (Pl : List S38) (T : List (List Int)) (hP : Pl.length ≤ 9223372036854775807) (hT : T.length ≤ 9223372036854775807) (hr : ∀ t ∈ T, t.length ≤ 9223372036854775807) (k : Nat) (hk : 1048577 < k) (a : Int) (ha : 0 ≤ a) (ha1 : a ≤ 1048576) :
    ∃ r, laws_szMesh.f k Pl T a = some r ∧ r ≤ 1048576 ∧ (0 ≤ r → Pl.length ≤ 1048576 ∧ T.length ≤ 1048576 ∧ ∀ t ∈ T, t.length ≤ 1048576) := by
  unfold laws_szMesh.f laws_szVectorS.f
  rw [wrap_fit (by omega) (by omega)]
  by_cases h1 : a - (Pl.length : Int) < 0
  · rw [if_pos h1]
    simp only [Option.bind_some]
    rw [if_pos (by decide)]
    exact ⟨-1, rfl, by decide, fun h => by omega⟩
  · rw [if_neg h1]
    simp only [Option.bind_some]
    rw [if_neg h1]
    unfold laws_szInt64SS.f
    rw [wrap_fit (by omega) (by omega)]
    by_cases h2 : a - (Pl.length : Int) - (T.length : Int) < 0
    · rw [if_pos h2]
      simp only [Option.bind_some]
      rw [if_pos (by decide)]
      exact ⟨-1, rfl, by decide, fun h => by omega⟩
    · rw [if_neg h2]
      obtain ⟨r, e, hr1, h⟩ := sz_loop T hr (by omega) T.length k 0 _ (by omega) (by omega) (by omega) (Int.not_lt.1 h2) (by omega)
      rw [show ((0 : Nat) : Int) = 0 from rfl] at e
      rw [e]
      simp only [Option.bind_some]
      by_cases h3 : r < 0
      · rw [if_pos h3]
        exact ⟨-1, rfl, by decide, fun h => by omega⟩
      · rw [if_neg h3]
        refine ⟨r, rfl, hr1, fun h0 => ⟨by omega, by omega, fun t ht => ?_⟩⟩
        obtain ⟨j, hj, rfl⟩ := List.getElem_of_mem ht
        exact h h0 j (by omega) hj

/-! copies -/
def toV (x : S38) : S40 := ⟨x.f0, x.f1, x.f2⟩

theorem toI_loop (l : List Int) (hl : l.length ≤ 1048576) (d : Nat) : ∀ (k i : Nat) (out : List Int), i ≤ l.length → l.length - i = d → d < k → out.length = l.length → (∀ j, j < i → out[j]? = l[j]?) → laws_toInt64S.l0 k l out (i : Int) = some l := by
  induction d with
  | zero =>
    intro k i out hi hd hk ho hj
    obtain ⟨k, rfl⟩ : ∃ j, k = j + 1 := ⟨k - 1, by omega⟩
    simp only [laws_toInt64S.l0]
    rw [if_neg (by omega)]
    congr 1
    apply List.ext_getElem?
    intro j
    rcases Nat.lt_or_ge j i with h | h
    · exact hj j h
    · rw [List.getElem?_eq_none (by omega), List.getElem?_eq_none (by omega)]
  | succ d ih =>
    intro k i out hi hd hk ho hj
    obtain ⟨k, rfl⟩ : ∃ j, k = j + 1 := ⟨k - 1, by omega⟩
    have hil : i < l.length := by omega
    simp only [laws_toInt64S.l0]
    rw [if_pos (by omega), if_pos (by omega), if_pos (by omega), rdI l i hil, up i (by omega), Int.toNat_natCast]
    refine ih k (i + 1) _ (by omega) (by omega) (by omega) (by rw [List.length_set]; exact ho) (fun j hji => ?_)
    by_cases e : j = i
    · subst e; rw [List.getElem?_set_self (by omega), List.getElem?_eq_getElem hil]
    · rw [List.getElem?_set_ne (by omega)]; exact hj j (by omega)

theorem toI_f (l : List Int) (hl : l.length ≤ 1048576) (k : Nat) (hk : 1048577 < k) : laws_toInt64S.f k l = some l := by
  unfold laws_toInt64S.f
  rw [if_pos (by omega), Int.toNat_natCast, if_pos (by omega)]
  exact toI_loop l hl l.length k 0 _ (by omega) (by omega) (by omega) (by simp) (fun j hj => absurd hj (Nat.not_lt_zero _))

theorem toT_loop (T : List (List Int)) (hl : T.length ≤ 1048576) (hr : ∀ t ∈ T, t.length ≤ 1048576) (d : Nat) : ∀ (k i : Nat) (out : List (List Int)), i ≤ T.length → T.length - i = d → d + 1048578 < k → out.length = T.length → (∀ j, j < i → out[j]? = T[j]?) → laws_toInt64SS.l0 k T out (i : Int) = some T := by
  induction d with
  | zero =>
    intro k i out hi hd hk ho hj
    obtain ⟨k, rfl⟩ : ∃ j, k = j + 1 := ⟨k - 1, by omega⟩
    simp only [laws_toInt64SS.l0]
    rw [if_neg (by omega)]
    congr 1
    apply List.ext_getElem?
    intro j
    rcases Nat.lt_or_ge j i with h | h
    · exact hj j h
    · rw [List.getElem?_eq_none (by omega), List.getElem?_eq_none (by omega)]
  | succ d ih =>
    intro k i out hi hd hk ho hj
    obtain ⟨k, rfl⟩ : ∃ j, k = j + 1 := ⟨k - 1, by omega⟩
    have hil : i < T.length := by omega
    simp only [laws_toInt64SS.l0]
    rw [if_pos (by omega), if_pos (by omega), rdL T i hil, toI_f _ (hr _ (List.getElem_mem hil)) k (by omega)]
    simp only [Option.bind_some]
    rw [if_pos (by omega), up i (by omega), Int.toNat_natCast]
    refine ih k (i + 1) _ (by omega) (by omega) (by omega) (by rw [List.length_set]; exact ho) (fun j hji => ?_)
    by_cases e : j = i
    · subst e; rw [List.getElem?_set_self (by omega), List.getElem?_eq_getElem hil]
    · rw [List.getElem?_set_ne (by omega)]; exact hj j (by omega)

theorem toP_loop (L : List S38) (hl : L.length ≤ 1048576) (d : Nat) : ∀ (k i : Nat) (out : List S40), i ≤ L.length → L.length - i = d → d < k → out.length = L.length → (∀ j, j < i → out[j]? = (L.map toV)[j]?) → laws_toVectorS.l0 k L out (i : Int) = some (L.map toV) := by
  induction d with
  | zero =>
    intro k i out hi hd hk ho hj
    obtain ⟨k, rfl⟩ : ∃ j, k = j + 1 := ⟨k - 1, by omega⟩
    simp only [laws_toVectorS.l0]
    rw [if_neg (by omega)]
    congr 1
    apply List.ext_getElem?
    intro j
    rcases Nat.lt_or_ge j i with h | h
    · exact hj j h
    · rw [List.getElem?_eq_none (by omega), List.getElem?_eq_none (by rw [List.length_map]; omega)]
  | succ d ih =>
    intro k i out hi hd hk ho hj
    obtain ⟨k, rfl⟩ : ∃ j, k = j + 1 := ⟨k - 1, by omega⟩
    have hil : i < L.length := by omega
    simp only [laws_toVectorS.l0]
    rw [if_pos (by omega), if_pos (by omega), rdW L i hil]
    unfold laws_toVector.f
    simp only [Option.bind_some]
    rw [if_pos (by omega), up i (by omega), Int.toNat_natCast]
    refine ih k (i + 1) _ (by omega) (by omega) (by omega) (by rw [List.length_set]; exact ho) (fun j hji => ?_)
    by_cases e : j = i
    · subst e; rw [List.getElem?_set_self (by omega), List.getElem?_map, List.getElem?_eq_getElem hil]; rfl
    · rw [List.getElem?_set_ne (by omega)]; exact hj j (by omega)

theorem toMesh_f (L : List S38) (T : List (List Int)) (hL : L.length ≤ 1048576) (hT : T.length ≤ 1048576) (hr : ∀ t ∈ T, t.length ≤ 1048576) (k : Nat) (hk : 2097155 < k) : laws_toMesh.f k L T = some (L.map toV, T) := by
  unfold laws_toMesh.f laws_toVectorS.f
  rw [if_pos (by omega), Int.toNat_natCast, if_pos (by omega)]
  have h1 := toP_loop L hL L.length k 0 (List.replicate L.length z40) (by omega) (by omega) (by omega) (by simp) (fun j hj => absurd hj (Nat.not_lt_zero _))
  rw [show ((0 : Nat) : Int) = 0 from rfl] at h1
  rw [h1]
  simp only [Option.bind_some]
  unfold laws_toInt64SS.f
  rw [if_pos (by omega), Int.toNat_natCast, if_pos (by omega)]
  have h2 := toT_loop T hT hr T.length k 0 (List.replicate T.length []) (by omega) (by omega) (by omega) (by simp) (fun j hj => absurd hj (Nat.not_lt_zero _))
  rw [show ((0 : Nat) : Int) = 0 from rfl] at h2
  rw [h2]
  rfl

/-! equal meshes -/
/-- A vector of floats below 2^32. -/
def okV (x : S40) : Prop := x.f0 < 4294967296 ∧ x.f1 < 4294967296 ∧ x.f2 < 4294967296
/-- Vectors with the same values. -/
def simV (x y : S40) : Prop := simF x.f0 y.f0 = true ∧ simF x.f1 y.f1 = true ∧ simF x.f2 y.f2 = true
theorem simV_self {x : S40} (h : okV x) : simV x x := ⟨simF_self h.1, simF_self h.2.1, simF_self h.2.2⟩
def simP (a b : List S40) : Prop := a.length = b.length ∧ ∀ (i : Nat) (ha : i < a.length) (hb : i < b.length), simV a[i] b[i]
theorem simP_self {a : List S40} (h : ∀ x ∈ a, okV x) : simP a a := ⟨rfl, fun i ha _ => simV_self (h _ (List.getElem_mem ha))⟩

theorem eqV_loop (a b : List S40) (hl : a.length ≤ 1048576) (h : simP a b) (d : Nat) : ∀ (k i : Nat), i ≤ a.length → a.length - i = d → d < k → laws_eqVectorS.l0 k a b (i : Int) = some true := by
  have hab := h.1
  induction d with
  | zero =>
    intro k i hi hd hk
    obtain ⟨k, rfl⟩ : ∃ j, k = j + 1 := ⟨k - 1, by omega⟩
    simp only [laws_eqVectorS.l0]
    rw [if_neg (by omega)]
  | succ d ih =>
    intro k i hi hd hk
    obtain ⟨k, rfl⟩ : ∃ j, k = j + 1 := ⟨k - 1, by omega⟩
    have hia : i < a.length := by omega
    have hib : i < b.length := by omega
    simp only [laws_eqVectorS.l0]
    rw [if_pos (by omega), if_pos (by omega), if_pos (by omega), rdV a i hia, rdV b i hib]
    unfold laws_eqVector.f
    have hs := h.2 i hia hib
    unfold simV at hs
    rw [if_pos hs]
    simp only [Option.bind_some]
    rw [if_pos trivial, up i (by omega)]
    exact ih k (i + 1) (by omega) (by omega) (by omega)

theorem eqI_loop (l : List Int) (hl : l.length ≤ 1048576) (d : Nat) : ∀ (k i : Nat), i ≤ l.length → l.length - i = d → d < k → laws_eqInt64S.l0 k l l (i : Int) = some true := by
  induction d with
  | zero =>
    intro k i hi hd hk
    obtain ⟨k, rfl⟩ : ∃ j, k = j + 1 := ⟨k - 1, by omega⟩
    simp only [laws_eqInt64S.l0]
    rw [if_neg (by omega)]
  | succ d ih =>
    intro k i hi hd hk
    obtain ⟨k, rfl⟩ : ∃ j, k = j + 1 := ⟨k - 1, by omega⟩
    simp only [laws_eqInt64S.l0]
    rw [if_pos (by omega), if_pos (by omega), if_pos (by omega), if_pos trivial, up i (by omega)]
    exact ih k (i + 1) (by omega) (by omega) (by omega)

theorem eqI_f (l : List Int) (hl : l.length ≤ 1048576) (k : Nat) (hk : 1048577 < k) : laws_eqInt64S.f k l l = some true := by
  unfold laws_eqInt64S.f
  rw [if_pos rfl]
  exact eqI_loop l hl l.length k 0 (by omega) (by omega) (by omega)

theorem eqT_loop (T : List (List Int)) (hl : T.length ≤ 1048576) (hr : ∀ t ∈ T, t.length ≤ 1048576) (d : Nat) : ∀ (k i : Nat), i ≤ T.length → T.length - i = d → d + 1048578 < k → laws_eqInt64SS.l0 k T T (i : Int) = some true := by
  induction d with
  | zero =>
    intro k i hi hd hk
    obtain ⟨k, rfl⟩ : ∃ j, k = j + 1 := ⟨k - 1, by omega⟩
    simp only [laws_eqInt64SS.l0]
    rw [if_neg (by omega)]
  | succ d ih =>
    intro k i hi hd hk
    obtain ⟨k, rfl⟩ : ∃ j, k = j + 1 := ⟨k - 1, by omega⟩
    have hil : i < T.length := by omega
    simp only [laws_eqInt64SS.l0]
    rw [if_pos (by omega), if_pos (by omega), if_pos (by omega), rdL T i hil, eqI_f _ (hr _ (List.getElem_mem hil)) k (by omega)]
    simp only [Option.bind_some]
    rw [if_pos trivial, up i (by omega)]
    exact ih k (i + 1) (by omega) (by omega) (by omega)

theorem eqMesh_f (a b : List S40) (T : List (List Int)) (h : simP a b) (hL : a.length ≤ 1048576) (hT : T.length ≤ 1048576) (hr : ∀ t ∈ T, t.length ≤ 1048576) (k : Nat) (hk : 2097155 < k) : laws_eqMesh.f k a T b T = some true := by
  unfold laws_eqMesh.f laws_eqVectorS.f
  have hab := h.1
  have h1 := eqV_loop a b hL h a.length k 0 (by omega) (by omega) (by omega)
  have h2 := eqT_loop T hT hr T.length k 0 (by omega) (by omega) (by omega)
  rw [show ((0 : Nat) : Int) = 0 from rfl] at h1 h2
  rw [if_pos (by omega), h1]
  simp only [Option.bind_some]
  rw [if_pos trivial]
  unfold laws_eqInt64SS.f
  rw [if_pos rfl, h2]
  rfl

/-! valid meshes -/
def inB (n : Nat) (p : Int) : Bool := decide (0 ≤ p ∧ p < (n : Int))
/-- A triangle of n places. -/
def triB (n : Nat) (t : List Int) : Bool := match t with
  | [a, b, c] => decide (a ≠ b) && decide (b ≠ c) && decide (a ≠ c) && inB n a && inB n b && inB n c
  | _ => false
def validB (n : Nat) (T : List (List Int)) : Bool := decide (n ≤ 64) && decide (T.length ≤ 128) && T.all (triB n)

theorem in_f (n : Nat) (hn : n ≤ 64) (p : Int) : spec_l00In.f p 0 (wrap64 ((n : Int) - 1)) = some (inB n p) := by
  unfold spec_l00In.f inB
  rw [wrap_fit (by omega) (by omega)]
  by_cases h : p ≥ 0
  · rw [if_pos h]; congr 1; rw [decide_eq_decide]; omega
  · rw [if_neg h]; congr 1; symm; rw [decide_eq_false_iff_not]; omega
theorem within_f (n : Nat) (hn : n ≤ 64) (p : Int) : impl_within.f p 0 (wrap64 ((n : Int) - 1)) = some (inB n p) := in_f n hn p

theorem tri3 {t : List Int} (h : t.length = 3) : ∃ a b c, t = [a, b, c] := by
  match t, h with
  | [a, b, c], _ => exact ⟨a, b, c, rfl⟩
theorem triB_len {n : Nat} {t : List Int} (h : triB n t = true) : t.length = 3 := by
  unfold triB at h
  split at h
  · rfl
  · cases h
theorem triB_not {n : Nat} {t : List Int} (h : ¬ t.length = 3) : triB n t = false := by
  cases e : triB n t
  · rfl
  · exact absurd (triB_len e) h

theorem rd3_0 (a b c : Int) : rd [a, b, c] 0 = a := rfl
theorem rd3_1 (a b c : Int) : rd [a, b, c] 1 = b := rfl
theorem rd3_2 (a b c : Int) : rd [a, b, c] 2 = c := rfl

theorem triB_rd (n : Nat) (t : List Int) (h : t.length = 3) : triB n t = (decide (rd t 0 ≠ rd t 1) && decide (rd t 1 ≠ rd t 2) && decide (rd t 0 ≠ rd t 2) && t.all (inB n)) := by
  obtain ⟨a, b, c, rfl⟩ := tri3 h
  rw [rd3_0, rd3_1, rd3_2]
  simp only [triB, List.all_cons, List.all_nil, Bool.and_true, Bool.and_assoc]

theorem triangle_f (n : Nat) (hn : n ≤ 64) (t : List Int) (k : Nat) (hk : 1 < k) : spec_l02Triangle.f k t (n : Int) = some (triB n t) := by
  obtain ⟨k, rfl⟩ : ∃ j, k = j + 1 := ⟨k - 1, by omega⟩
  unfold spec_l02Triangle.f
  by_cases h3 : t.length = 3
  · obtain ⟨a, b, c, rfl⟩ := tri3 h3
    simp only [spec_l02Triangle.j0, rd3_0, rd3_1, rd3_2, in_f n hn, Option.bind_some]
    simp only [triB, List.length_cons, List.length_nil]
    by_cases e1 : a = b <;> by_cases e2 : b = c <;> by_cases e3 : a = c <;> by_cases i1 : inB n a = true <;> by_cases i2 : inB n b = true <;> simp_all
  · rw [if_neg (by omega)]
    simp only [spec_l02Triangle.j0]
    rw [if_pos trivial, triB_not h3]

theorem is_loop (Q : List S40) (T : List (List Int)) (hn : Q.length ≤ 64) (hT : T.length ≤ 128) (d : Nat) : ∀ (k i : Nat), i ≤ T.length → T.length - i = d → d + 2 < k → spec_l02Is.l0 k (i : Int) Q T = some ((T.drop i).all (triB Q.length)) := by
  induction d with
  | zero =>
    intro k i hi hd hk
    obtain ⟨k, rfl⟩ : ∃ j, k = j + 1 := ⟨k - 1, by omega⟩
    simp only [spec_l02Is.l0]
    rw [if_neg (by omega), List.drop_of_length_le (by omega)]
    rfl
  | succ d ih =>
    intro k i hi hd hk
    obtain ⟨k, rfl⟩ : ∃ j, k = j + 1 := ⟨k - 1, by omega⟩
    have hil : i < T.length := by omega
    have e : T.drop i = T[i] :: T.drop (i + 1) := List.drop_eq_getElem_cons hil
    simp only [spec_l02Is.l0]
    rw [if_pos (by omega), if_pos (by omega), rdL T i hil, triangle_f _ hn _ k (by omega), e, List.all_cons]
    simp only [Option.bind_some]
    by_cases h : triB Q.length T[i] = true
    · rw [if_pos h, up i (by omega), ih k (i + 1) (by omega) (by omega) (by omega), h]; rfl
    · rw [if_neg h, Bool.eq_false_iff.2 h]; rfl

theorem is_f (Q : List S40) (T : List (List Int)) (k : Nat) (hk : 200 < k) : spec_l02Is.f k Q T = some (validB Q.length T) := by
  obtain ⟨k, rfl⟩ : ∃ j, k = j + 1 := ⟨k - 1, by omega⟩
  unfold spec_l02Is.f validB
  by_cases h1 : Q.length ≤ 64
  · rw [if_neg (by omega)]
    simp only [spec_l02Is.j0]
    by_cases h2 : T.length ≤ 128
    · rw [if_neg (by simp; omega)]
      have := is_loop Q T h1 h2 T.length k 0 (by omega) (by omega) (by omega)
      rw [show ((0 : Nat) : Int) = 0 from rfl] at this
      rw [this]
      simp [h1, h2]
    · rw [if_pos (by simp; omega)]
      simp [h2]
  · rw [if_pos (by omega)]
    simp only [spec_l02Is.j0]
    rw [if_pos trivial]
    simp [h1]

theorem vm_inner (T : List (List Int)) (n : Nat) (hn : n ≤ 64) (i : Nat) (t : List Int) (ht : t.length = 3) (d : Nat) : ∀ (k j : Nat), j ≤ 3 → 3 - j = d → d < k →
    ∃ k', k' + d + 1 = k ∧ impl_ValidMesh.l1 k (n : Int) T (T.length : Int) (i : Int) t (t.length : Int) (j : Int) = if (t.drop j).all (inB n) = true then impl_ValidMesh.l0 k' (n : Int) T (T.length : Int) (wrap64 ((i : Int) + 1)) else some false := by
  induction d with
  | zero =>
    intro k j hj hd hk
    obtain ⟨k, rfl⟩ : ∃ j, k = j + 1 := ⟨k - 1, by omega⟩
    refine ⟨k, by omega, ?_⟩
    simp only [impl_ValidMesh.l1]
    rw [if_neg (by omega), List.drop_of_length_le (by omega)]
    rfl
  | succ d ih =>
    intro k j hj hd hk
    obtain ⟨k, rfl⟩ : ∃ j, k = j + 1 := ⟨k - 1, by omega⟩
    have hjl : j < t.length := by omega
    obtain ⟨k', hk', h⟩ := ih k (j + 1) (by omega) (by omega) (by omega)
    refine ⟨k', by omega, ?_⟩
    have e : t.drop j = t[j] :: t.drop (j + 1) := List.drop_eq_getElem_cons hjl
    simp only [impl_ValidMesh.l1]
    rw [if_pos (by omega), if_pos (by omega), if_pos (by omega), rdI t j hjl, within_f n hn, e, List.all_cons]
    simp only [Option.bind_some]
    by_cases hb : inB n t[j] = true
    · rw [if_pos hb, up j (by omega), h, hb, Bool.true_and]
    · rw [if_neg hb, if_neg (by simp [hb])]

theorem vm_loop (n : Nat) (hn : n ≤ 64) (T : List (List Int)) (hT : T.length ≤ 128) (d : Nat) : ∀ (k i : Nat), i ≤ T.length → T.length - i = d → 10 * d + 5 < k → impl_ValidMesh.l0 k (n : Int) T (T.length : Int) (i : Int) = some ((T.drop i).all (triB n)) := by
  induction d with
  | zero =>
    intro k i hi hd hk
    obtain ⟨k, rfl⟩ : ∃ j, k = j + 1 := ⟨k - 1, by omega⟩
    simp only [impl_ValidMesh.l0]
    rw [if_neg (by omega), List.drop_of_length_le (by omega)]
    rfl
  | succ d ih =>
    intro k i hi hd hk
    obtain ⟨k, rfl⟩ : ∃ j, k = j + 2 := ⟨k - 2, by omega⟩
    have hil : i < T.length := by omega
    have e : T.drop i = T[i] :: T.drop (i + 1) := List.drop_eq_getElem_cons hil
    simp only [impl_ValidMesh.l0]
    rw [if_pos (by omega), if_pos (by omega), if_pos (by omega), rdL T i hil, e, List.all_cons]
    by_cases h3 : T[i].length = 3
    · rw [if_pos (by omega), if_pos (by omega), if_pos (by omega)]
      obtain ⟨k', hk', h1⟩ := vm_inner T n hn i T[i] h3 3 k 0 (by omega) (by omega) (by omega)
      have h0 := ih k' (i + 1) (by omega) (by omega) (by omega)
      rw [up i (by omega), h0, List.drop_zero] at h1
      rw [triB_rd n _ h3]
      generalize T[i] = t at *
      have h1' : impl_ValidMesh.l1 k (n : Int) T (T.length : Int) (i : Int) t (t.length : Int) 0 = if t.all (inB n) = true then some ((T.drop (i + 1)).all (triB n)) else some false := h1
      by_cases e1 : rd t 0 = rd t 1
      · rw [if_pos e1]
        simp [impl_ValidMesh.j2, e1]
      · rw [if_neg e1, if_pos (by omega)]
        by_cases e2 : rd t 1 = rd t 2
        · rw [if_pos e2]
          simp [impl_ValidMesh.j2, e2]
        · rw [if_neg e2]
          simp only [impl_ValidMesh.j2]
          by_cases e3 : rd t 0 = rd t 2
          · rw [if_pos (by simp [e3])]
            simp [e3]
          · rw [if_neg (by simp [e3]), h1']
            cases t.all (inB n) <;> simp [e1, e2, e3]
    · rw [if_neg (by omega)]
      simp only [impl_ValidMesh.j2]
      rw [if_pos trivial, triB_not h3]; rfl

theorem valid_f (Q : List S40) (T : List (List Int)) (k : Nat) (hk : 2000 < k) : impl_ValidMesh.f k Q T = some (validB Q.length T) := by
  obtain ⟨k, rfl⟩ : ∃ j, k = j + 1 := ⟨k - 1, by omega⟩
  unfold impl_ValidMesh.f validB
  by_cases h1 : Q.length ≤ 64
  · rw [if_neg (by omega)]
    simp only [impl_ValidMesh.j0]
    by_cases h2 : T.length ≤ 128
    · rw [if_neg (by simp; omega)]
      have := vm_loop Q.length h1 T h2 T.length k 0 (by omega) (by omega) (by omega)
      rw [show ((0 : Nat) : Int) = 0 from rfl] at this
      rw [this]
      simp [h1, h2]
    · rw [if_pos (by simp; omega)]
      simp [h2]
  · rw [if_pos (by omega)]
    simp only [impl_ValidMesh.j0]
    rw [if_pos trivial]
    simp [h1]
end Go.Proofs.Ytlendjpmblapkab.Msh
namespace Go.Proofs.Ytlendjpmblapkab
open Go.RowKit Go.Proofs.YtlendjpmblapkabW.PrintWords Go.Proofs.Ytlendjpmblapkab.PMesh Msh
set_option linter.unusedVariables false

/-- a, a + 1, .. -/
def marksA (a : Int) (n : Nat) : List Int := (List.range n).map fun t : Nat => a + (t : Int)
theorem marksA_len (a : Int) (n : Nat) : (marksA a n).length = n := by simp [marksA]
theorem marksA_get (a : Int) (n i : Nat) (h : i < (marksA a n).length) : (marksA a n)[i] = a + (i : Int) := by simp [marksA]

/-- The first i marked. -/
def partA (a : Int) (l : List Int) (i : Nat) : List Int := marksA a i ++ l.drop i
theorem partA_len (a : Int) (l : List Int) (i : Nat) (h : i ≤ l.length) : (partA a l i).length = l.length := by simp [partA, marksA]; omega
theorem partA_all (a : Int) (l : List Int) : partA a l l.length = marksA a l.length := by simp [partA]
theorem partA_set (a : Int) (l : List Int) (i : Nat) (h : i < l.length) : (partA a l i).set i (a + (i : Int)) = partA a l (i + 1) := by
  have e1 : marksA a (i + 1) = marksA a i ++ [a + (i : Int)] := by simp [marksA, List.range_succ]
  have e2 : l.drop i = l[i] :: l.drop (i + 1) := List.drop_eq_getElem_cons h
  have hm : (marksA a i).length = i := marksA_len a i
  unfold partA
  rw [e1, e2, List.set_append, if_neg (by omega), hm, Nat.sub_self, List.set_cons_zero, List.append_assoc]
  rfl

theorem mark_ints (v : Value) (l : List Int) (hl : l.length ≤ 1048576) (a : Int) (ha : 0 ≤ a) (ha1 : a ≤ 1152921504606846976) (w : World) (base : Nat) (h : w.ownsRow base 2 1 v l.length (encs (Value.int .i64) l)) :
    Calls Try.prog 62 #[v, .int .i64 a] w fun e w' => e = .returned (.int .i64 (a + (l.length : Int))) ∧ w'.ownsRow base 2 1 v l.length (encs (Value.int .i64) (marksA a l.length)) ∧ w.grownBy w' v.ownBlock := by
  by_cases h0 : l.length = 0
  · obtain rfl : l = [] := List.length_eq_zero_iff.1 h0
    obtain ⟨A, c, rfl⟩ := own_slice h
    have HO := Lib.hid h
    clear h h0 hl
    show Calls Try.prog 62 #[.slice A 0 c, .int .i64 a] w _
    go_enter Try.func62, Try.ntmps62
    go_wp2_with fail
    go_loopw [1, 5] (fun k i wr => wr = w ∧ k = .int .i64 a ∧ i = .int .i64 0) (fun _ _ _ => 0)
    case atStart => exact ⟨rfl, rfl, rfl⟩
    case round =>
      obtain ⟨rfl, rfl, rfl⟩ := hrel
      go_wp2_with fail
      go_ret
      exact ⟨by simp, HO.out, World.grownBy.refl _ _⟩
  · obtain ⟨g, c, rfl, hgb, hgl⟩ := h.form (by omega)
    have HO := Lib.hid h
    clear h
    go_enter Try.func62, Try.ntmps62
    go_wp2_with fail
    go_loopw [1, 5] (fun k i wr => ∃ j : Nat, j ≤ l.length ∧ k = .int .i64 (a + (j : Int)) ∧ i = .int .i64 (j : Int) ∧ Hid (wr.ownsRow base 2 1 (.slice (some ⟨g, 0, none⟩) l.length c) l.length (encs (Value.int .i64) (partA a l j))) ∧ w.grownBy wr (some g)) (fun _ i _ => l.length - (intOf i).toNat)
    case atStart => exact ⟨0, Nat.zero_le _, by simp, rfl, by exact HO.out, World.grownBy.refl _ _⟩
    case round =>
      obtain ⟨j, hj, rfl, rfl, hO, hg⟩ := hrel
      by_cases hlt : j < l.length
      · have b1 : (j : Int) < (l.length : Int) := by omega
        have b2 : (0 : Int) ≤ (j : Int) := by omega
        have b3 : (j : Int) < 1048576 := by omega
        obtain ⟨hcell, hfr⟩ := own_at_of (d := (0 : Int)) hO.out (j : Int) b2 b1
        obtain ⟨hst, hgs⟩ := own_store_of (enc := Value.int .i64) hO.out (j : Int) (a + (j : Int))
        rw [Int.toNat_natCast] at hcell hfr hst hgs
        rw [partA_set a l j hlt] at hst
        have HST := Lib.hid hst
        have HGS := Lib.hid hgs
        clear hst hgs
        go_wp2_with fail
        go_roundw
        case rel => exact ⟨j + 1, hlt, by first | rfl | (congr 1; omega) | (simp; omega), by simp, by exact HST.out, World.grownBy.trans hg HGS.out⟩
        case measure => simp [intOf]; omega
      · obtain rfl : j = l.length := by omega
        go_wp2_with fail
        go_ret
        refine ⟨rfl, ?_, hg⟩
        have := hO.out
        rw [partA_all] at this
        exact this

theorem held_loopA (a : Int) (ha : 0 ≤ a) (ha1 : a ≤ 1152921504606846976) (n : Nat) (hl : n ≤ 1048576) (d : Nat) : ∀ (k i : Nat), i ≤ n → n - i = d → d < k → laws_heldInt64S.l0 k (marksA a n) (a + (i : Int)) (i : Int) = some (a + (n : Int)) := by
  have hml := marksA_len a n
  induction d with
  | zero =>
    intro k i hi hd hk
    obtain ⟨k, rfl⟩ : ∃ j, k = j + 1 := ⟨k - 1, by omega⟩
    obtain rfl : i = n := by omega
    simp only [laws_heldInt64S.l0]
    rw [if_neg (by omega)]
  | succ d ih =>
    intro k i hi hd hk
    obtain ⟨k, rfl⟩ : ∃ j, k = j + 1 := ⟨k - 1, by omega⟩
    simp only [laws_heldInt64S.l0]
    rw [if_pos (by omega), if_pos (by omega), rdI _ i (by omega), marksA_get, if_pos (by omega), Msh.wrap_fit (by omega) (by omega), up i (by omega), show a + (i : Int) + 1 = a + ((i + 1 : Nat) : Int) by omega]
    exact ih k (i + 1) (by omega) (by omega) (by omega)

theorem held_fA (a : Int) (ha : 0 ≤ a) (ha1 : a ≤ 1152921504606846976) (n : Nat) (hl : n ≤ 1048576) : laws_heldInt64S.f 1048577 (marksA a n) a = some (a + (n : Int)) := by
  unfold laws_heldInt64S.f
  have := held_loopA a ha ha1 n hl n 1048577 0 (by omega) (by omega) (by omega)
  rw [show a + ((0 : Nat) : Int) = a by omega] at this
  exact this

/-- Blocks from a up to b. -/
def In (a b : Nat) (k : Nat) : Prop := a ≤ k ∧ k < b

/-- What was made from base on lies from base up to the world's size. -/
theorem R_in {α : Type} {d : Kd α} {e base : Nat} {w : World} {v : Value} {xs : List α} {ok : Nat → Prop} (h : d.R e w base ok v xs) : d.R e w base (In base w.heap.size) v xs := Kd.R_mono (Kd.R_bound h) (fun k hk => ⟨hk.2.1, hk.2.2.1⟩)
theorem S_in {α : Type} {d : Kd α} {e base : Nat} {w : World} {v : Value} {xs : List α} {ok : Nat → Prop} (h : Kd.S d e w base ok v xs) : Kd.S d e w base (In base w.heap.size) v xs := Kd.S_mono (Kd.S_bound h) (fun k hk => ⟨hk.2.1, hk.2.2.1⟩)

theorem In_off {a b c d : Nat} (h : b ≤ c ∨ d ≤ a) : ∀ k, In a b k → ¬ In c d k := fun k h1 h2 => by unfold In at h1 h2; omega

/-- A grown row of the range: what is not in the range stays. -/
theorem kept_grown {w w' : World} {a b : Nat} {row : Option Nat} (h : w.grownBy w' row) (hr : ∀ k, row = some k → In a b k) : Kept w w' (In a b) := ⟨h.size, fun i hi hn => h.block i hi (fun e => hn (hr i e.symm))⟩
end Go.Proofs.Ytlendjpmblapkab
namespace Go.Proofs.Ytlendjpmblapkab
open Go.RowKit Go.Proofs.YtlendjpmblapkabW.PrintWords Go.Proofs.Ytlendjpmblapkab.PMesh Msh
set_option linter.unusedVariables false

/-- How many numbers rows hold. -/
def tot : List (List Int) → Nat
  | [] => 0
  | t :: r => t.length + tot r
/-- Rows marked, from a on. -/
def marksT (a : Int) : List (List Int) → List (List Int)
  | [] => []
  | t :: r => marksA a t.length :: marksT (a + (t.length : Int)) r

theorem tot_append (x y : List (List Int)) : tot (x ++ y) = tot x + tot y := by
  induction x with
  | nil => simp [tot]
  | cons t r ih => simp [tot, ih]; omega
theorem marksT_append (x y : List (List Int)) : ∀ a, marksT a (x ++ y) = marksT a x ++ marksT (a + (tot x : Int)) y := by
  induction x with
  | nil => intro a; simp [tot, marksT]
  | cons t r ih =>
    intro a
    simp only [List.cons_append, marksT, tot, ih]
    congr 3
    omega
theorem marksT_len (x : List (List Int)) : ∀ a, (marksT a x).length = x.length := by
  induction x with
  | nil => intro a; rfl
  | cons t r ih => intro a; simp [marksT, ih]
theorem tot_le (T : List (List Int)) (hr : ∀ t ∈ T, t.length ≤ 1048576) : tot T ≤ T.length * 1048576 := by
  induction T with
  | nil => simp [tot]
  | cons t r ih =>
    have h1 := hr t List.mem_cons_self
    have h2 := ih (fun x hx => hr x (List.mem_cons_of_mem _ hx))
    simp only [tot, List.length_cons]
    omega
theorem tot_take (T : List (List Int)) (j : Nat) : tot (T.take j) ≤ tot T := by
  have := tot_append (T.take j) (T.drop j)
  rw [List.take_append_drop] at this
  omega

/-- The first j rows marked. -/
def partT (a : Int) (T : List (List Int)) (j : Nat) : List (List Int) := marksT a (T.take j) ++ T.drop j
theorem partT_zero (a : Int) (T : List (List Int)) : partT a T 0 = T := by simp [partT, marksT]
theorem partT_all (a : Int) (T : List (List Int)) : partT a T T.length = marksT a T := by simp [partT]
theorem partT_len (a : Int) (T : List (List Int)) (j : Nat) (h : j ≤ T.length) : (partT a T j).length = T.length := by simp [partT, marksT_len]; omega
theorem partT_get (a : Int) (T : List (List Int)) (j : Nat) (h : j < T.length) : (partT a T j).getD j [] = T[j] := by
  have hl : (marksT a (T.take j)).length = j := by rw [marksT_len, List.length_take]; omega
  unfold partT
  rw [List.getD_eq_getElem?_getD, List.getElem?_append_right (by omega), hl, Nat.sub_self, List.drop_eq_getElem_cons h]
  rfl
theorem partT_set (a : Int) (T : List (List Int)) (j : Nat) (h : j < T.length) : (partT a T j).set j (marksA (a + (tot (T.take j) : Int)) T[j].length) = partT a T (j + 1) := by
  have hl : (marksT a (T.take j)).length = j := by rw [marksT_len, List.length_take]; omega
  have e2 : T.drop j = T[j] :: T.drop (j + 1) := List.drop_eq_getElem_cons h
  unfold partT
  rw [List.take_succ_eq_append_getElem h, marksT_append, e2, List.set_append, if_neg (by omega), hl, Nat.sub_self, List.set_cons_zero, List.append_assoc]
  rfl
theorem tot_succ (T : List (List Int)) (j : Nat) (h : j < T.length) : tot (T.take (j + 1)) = tot (T.take j) + T[j].length := by
  rw [List.take_succ_eq_append_getElem h, tot_append]
  simp [tot]

set_option maxHeartbeats 1000000 in
set_option maxRecDepth 100000 in
theorem mark_rows (v : Value) (T : List (List Int)) (hT : T.length ≤ 1048576) (hr : ∀ t ∈ T, t.length ≤ 1048576) (a : Int) (ha : 0 ≤ a) (ha1 : a ≤ 1099511627776) (w : World) (base : Nat) (ok : Nat → Prop) (b0 : Nat) (w0 : World) (K : Below b0 w0 w) (hb0 : b0 ≤ base) (hbw : b0 ≤ w.heap.size)
    (h : Kd.S (Kd.slice 2 (Kd.int .i64)) 56 w base ok v T) :
    Calls Try.prog 38 #[v, .int .i64 a] w fun e w' => e = .returned (.int .i64 (a + (tot T : Int))) ∧ Kd.S (Kd.slice 2 (Kd.int .i64)) 56 w' base ok v (marksT a T) ∧ Kept w w' ok ∧ Below b0 w0 w' := by
  have htot := tot_le T hr
  have htot2 : T.length * 1048576 ≤ 1099511627776 := by omega
  by_cases h0 : T.length = 0
  · obtain rfl : T = [] := List.length_eq_zero_iff.1 h0
    obtain ⟨A, c, rfl⟩ := Kd.S_slice h
    have HS := Lib.hid h
    have HK := Lib.hid K
    clear h h0 hT hr K htot htot2
    show Calls Try.prog 38 #[.slice A 0 c, .int .i64 a] w _
    go_enter Try.func38, Try.ntmps38
    go_wp2_with fail
    go_loopw [1, 5] (fun k i wr => wr = w ∧ k = .int .i64 a ∧ i = .int .i64 0) (fun _ _ _ => 0)
    case atStart => exact ⟨rfl, rfl, rfl⟩
    case round =>
      obtain ⟨rfl, rfl, rfl⟩ := hrel
      go_wp2_with fail
      go_ret
      exact ⟨by simp [tot], HS.out, Kept.refl _ _, HK.out⟩
  · obtain ⟨g, c, rfl, hgb, hgl, _⟩ := Kd.S_form h (by omega)
    have HS := Lib.hid h
    have HK := Lib.hid K
    have HR := Lib.hid hr
    clear h K hr hgb hgl
    go_enter Try.func38, Try.ntmps38
    go_wp2_with fail
    go_loopw [1, 5] (fun k i wr => ∃ (j : Nat) (q : Int), j ≤ T.length ∧ k = .int .i64 q ∧ Hid (q = a + (tot (T.take j) : Int)) ∧ i = .int .i64 (j : Int) ∧ Hid (Kd.S (Kd.slice 2 (Kd.int .i64)) 56 wr base ok (.slice (some ⟨g, 0, none⟩) T.length c) (partT a T j)) ∧ Hid (Kept w wr ok) ∧ Hid (Below b0 w0 wr)) (fun _ i _ => T.length - (intOf i).toNat)
    case atStart => exact ⟨0, a, Nat.zero_le _, rfl, by exact Lib.hid (by simp [tot]), rfl, by rw [partT_zero]; exact HS, Lib.hid (Kept.refl _ _), HK⟩
    case round =>
      obtain ⟨j, q, hj, rfl, hq, rfl, hS, hKe, hB⟩ := hrel
      by_cases hlt : j < T.length
      · have b1 : (j : Int) < (T.length : Int) := by omega
        have b2 : (0 : Int) ≤ (j : Int) := by omega
        have b3 : (j : Int) < 1048576 := by omega
        obtain ⟨oki, cc, hcl, hM, hcc, hoki, hbk⟩ := Kd.S_borrow hS.out [] (j : Int) b2 (by omega)
        rw [Int.toNat_natCast, partT_get a T j hlt] at hM
        rw [Int.toNat_natCast] at hcc hbk
        obtain ⟨vi, rfl, hR⟩ := hM
        have hcell := hcc 0 _ rfl
        rw [show (Kd.slice 2 (Kd.int .i64)).sz = 1 from rfl, Nat.mul_one, Nat.add_zero, add_at, Nat.zero_add] at hcell
        obtain ⟨Ai, ci, rfl⟩ := Kd.R_slice hR
        have hlen := HR.out T[j] (List.getElem_mem hlt)
        have htk := tot_take T j
        have hq0 := hq.out
        have hqb : 0 ≤ q ∧ q ≤ 2199023255552 := by omega
        have hqs : q + (T[j].length : Int) = a + (tot (T.take (j + 1)) : Int) := by rw [tot_succ T j hlt]; omega
        have hstep : ∀ (w2 : World), w2.ownsRow base 2 1 (.slice Ai T[j].length ci) T[j].length (encs (Value.int .i64) (marksA q T[j].length)) → wr.grownBy w2 (Value.slice Ai T[j].length ci).ownBlock → Kd.S (Kd.slice 2 (Kd.int .i64)) 56 w2 base ok (.slice (some ⟨g, 0, none⟩) T.length c) (partT a T (j + 1)) ∧ Kept w w2 ok ∧ Below b0 w0 w2 := by
          intro w2 ho hg
          have hin : ∀ k, (Value.slice Ai T[j].length ci).ownBlock = some k → oki k := fun k hk => hR.1 k hk
          refine ⟨?_, Kept.of_grown hg hKe.out (fun k hk => .inl (hoki k (hin k hk)).1), Below.grown hB.out hg (Nat.le_trans hbw hKe.out.1) (fun k hk => Nat.le_trans hb0 (own_base (Kd.own_of_R hR) k hk))⟩
          have := hbk (x' := marksA q T[j].length) hg hin ⟨_, rfl, Kd.R_of_own (by rw [marksA_len]; exact ho) hin⟩
          rw [hq0, partT_set a T j hlt] at this
          exact this
        have HST := Lib.hid hstep
        have HRR := Lib.hid (Kd.own_of_R hR)
        have HQS := Lib.hid hqs
        have hl1 : T[j].length ≤ 1048576 := hlen
        clear hstep hR hcc hbk hq0 hqs hoki hcl hlen htk hq htot htot2 hT ha ha1
        obtain ⟨hq1, hq2⟩ := hqb
        generalize T[j] = t at *
        go_wp2_with (first | (go_at_call 62; refine (mark_ints _ t hl1 q hq1 (by omega) _ base HRR.out).mono ?_; rintro e w2 ⟨rfl, ho, hg⟩; have HN := Lib.hid (HST.out w2 ho hg); clear ho hg) | fail)
        go_roundw
        case rel => exact ⟨j + 1, q + (t.length : Int), hlt, rfl, HQS, by simp, Lib.hid HN.out.1, Lib.hid HN.out.2.1, Lib.hid HN.out.2.2⟩
        case measure => simp [intOf]; omega
      · obtain rfl : j = T.length := by omega
        have hfin := hS.out
        rw [partT_all] at hfin
        have hqf := hq.out
        rw [List.take_length] at hqf
        have HF := Lib.hid hfin
        have HQ := Lib.hid hqf
        clear hfin hqf hS hq
        go_wp2_with fail
        go_ret
        exact ⟨by rw [HQ.out]; rfl, HF.out, hKe.out, hB.out⟩

end Go.Proofs.Ytlendjpmblapkab
namespace Go.Proofs.Ytlendjpmblapkab.Msh
open Fl Go.RowKit Go.Proofs.YtlendjpmblapkabW.PrintWords Go.Proofs.Ytlendjpmblapkab.PMesh
set_option linter.unusedVariables false

/-- What is known of a mesh that comes in. -/
structure MeshOk (L : List S38) (T : List (List Int)) : Prop where
  lp : L.length ≤ 9223372036854775807
  lt : T.length ≤ 9223372036854775807
  lr : ∀ t ∈ T, t.length ≤ 9223372036854775807
  fl : ∀ x ∈ L, x.f0 < 4294967296 ∧ x.f1 < 4294967296 ∧ x.f2 < 4294967296

theorem map_ok {L : List S38} (h : ∀ x ∈ L, x.f0 < 4294967296 ∧ x.f1 < 4294967296 ∧ x.f2 < 4294967296) : ∀ x ∈ L.map toV, okV x := by
  intro x hx
  obtain ⟨y, hy, rfl⟩ := List.mem_map.1 hx
  exact h y hy

end Go.Proofs.Ytlendjpmblapkab.Msh
namespace Go.Proofs.Ytlendjpmblapkab
open Go.RowKit Go.Proofs.YtlendjpmblapkabW.PrintWords Go.Proofs.Ytlendjpmblapkab.PMesh Msh

end Go.Proofs.Ytlendjpmblapkab
namespace Go.Proofs.Ytlendjpmblapkab
open Go.RowKit Go.Proofs.YtlendjpmblapkabW.PrintWords Go.Proofs.Ytlendjpmblapkab.PMesh Msh
set_option linter.unusedVariables false

/-- A mesh of the call's own, its blocks from a up to b. -/
def OwnM (w : World) (a b : Nat) (vP vT : Value) (P : List S40) (T : List (List Int)) : Prop :=
  Kd.R k40 40 w a (In a b) vP P ∧ Kd.S (Kd.slice 2 (Kd.int .i64)) 56 w a (In a b) vT T
/-- A row of numbers of the call's own. -/
def OwnI (w : World) (a b : Nat) (v : Value) (l : List Int) : Prop := Kd.R (Kd.int .i64) 2 w a (In a b) v l
/-- A mesh that came in, as it can be read from w on. -/
def CameM (w : World) (A : Option Addr) (c : Nat) (L : List S38) (B : Option Addr) (e : Nat) (T : List (List Int)) : Prop :=
  Kd.C k38 w A L.length L ∧ L.length ≤ c ∧ Kd.C (Kd.slice 2 (Kd.int .i64)) w B T.length T ∧ T.length ≤ e

section
variable {w w' w0 : World} {a b c d b0 : Nat} {v vP vT : Value} {P : List S40} {T : List (List Int)} {l : List Int}
theorem OwnM.below (h : OwnM w a b vP vT P T) (hb : Below w.heap.size w w') : OwnM w' a b vP vT P T := ⟨Kd.R_below h.1 hb, Kd.S_below h.2 hb⟩
theorem OwnM.drawn (h : OwnM w a b vP vT P T) (hd : Drawn0 w w') : OwnM w' a b vP vT P T := h.below hd.below
theorem OwnM.kept (h : OwnM w a b vP vT P T) (hk : Kept w w' (In c d)) (ho : b ≤ c ∨ d ≤ a) : OwnM w' a b vP vT P T := ⟨Kd.R_kept h.1 hk (In_off ho), Kd.S_kept h.2 hk (In_off ho)⟩
theorem OwnI.below (h : OwnI w a b v l) (hb : Below w.heap.size w w') : OwnI w' a b v l := Kd.R_below h hb
theorem OwnI.drawn (h : OwnI w a b v l) (hd : Drawn0 w w') : OwnI w' a b v l := h.below hd.below
theorem OwnI.kept (h : OwnI w a b v l) (hk : Kept w w' (In c d)) (ho : b ≤ c ∨ d ≤ a) : OwnI w' a b v l := Kd.R_kept h hk (In_off ho)
theorem OwnM.C {A B : Option Addr} {n m e f : Nat} (h : OwnM w a b (.slice A n e) (.slice B m f) P T) : Kd.C k40 w A P.length P ∧ P.length ≤ e ∧ Kd.C (Kd.slice 2 (Kd.int .i64)) w B T.length T ∧ T.length ≤ f := by
  obtain ⟨h1, h2, h3⟩ := Kd.R_reads' h.1
  obtain ⟨h4, h5, h6⟩ := Kd.S_reads' h.2
  exact ⟨h3, by omega, h6, by omega⟩
theorem OwnI.C {A : Option Addr} {n e : Nat} (h : OwnI w a b (.slice A n e) l) : Kd.C (Kd.int .i64) w A l.length l ∧ l.length ≤ e := by
  obtain ⟨h1, h2, h3⟩ := Kd.R_reads' h
  exact ⟨h3, by omega⟩
theorem CameM.below {A B : Option Addr} {c e : Nat} {L : List S38} (h : CameM w A c L B e T) (hb : Below w.heap.size w w') : CameM w' A c L B e T := ⟨Kd.C_below h.1 hb, h.2.1, Kd.C_below h.2.2.1 hb, h.2.2.2⟩
theorem Drawn0.sized (h : Drawn0 w w') : w'.heap.size = w.heap.size := by obtain ⟨m, rfl⟩ := h; rfl
theorem below_then (h : Below b0 w0 w) (hb : Below w.heap.size w w') (hw : b0 ≤ w.heap.size) : Below b0 w0 w' := h.trans (hb.mono hw)
end

/-- A variable that holds a mesh: its block. -/
def BoxAt (W : World) (g : Nat) (t : TypeId) (u v : Value) : Prop := W.heap[g]? = some (.cells #[u, v] t (0, 0))
section
variable {W W' : World} {g c d : Nat} {t : TypeId} {u v : Value}
theorem BoxAt.below (h : BoxAt W g t u v) (hb : Below W.heap.size W W') : BoxAt W' g t u v := (hb.block g (blk_lt h)).trans h
theorem BoxAt.drawn (h : BoxAt W g t u v) (hd : Drawn0 W W') : BoxAt W' g t u v := h.below hd.below
theorem BoxAt.kept (h : BoxAt W g t u v) (hk : Kept W W' (In c d)) (ho : g < c ∨ d ≤ g) : BoxAt W' g t u v := blk_kept h hk (fun hi => by unfold In at hi; omega)
theorem BoxAt.new (W : World) (t : TypeId) (u v : Value) : BoxAt (W.alloc (.cells #[u, v] t)) W.heap.size t u v := heap_alloc_new W _
theorem BoxAt.c0 (h : BoxAt W g t u v) : W.cell? ⟨g, 0, none⟩ = some u := (blk_cell h 0).trans rfl
theorem BoxAt.c1 (h : BoxAt W g t u v) : W.cell? ⟨g, 1, none⟩ = some v := (blk_cell h 1).trans rfl
theorem BoxAt.lt (h : BoxAt W g t u v) : g < W.heap.size := blk_lt h
theorem keep4 {g1 g2 : Nat} {t1 t2 : TypeId} {u1 v1 u2 v2 : Value} {R : World → Prop} (hR : ∀ W W', R W → Below W.heap.size W W' → R W') (hb : Below W.heap.size W W')
    (h : W.cell? ⟨g1, 0, none⟩ = some u1 ∧ W.cell? ⟨g1, 1, none⟩ = some v1 ∧ W.cell? ⟨g2, 0, none⟩ = some u2 ∧ W.cell? ⟨g2, 1, none⟩ = some v2 ∧ BoxAt W g1 t1 u1 v1 ∧ BoxAt W g2 t2 u2 v2 ∧ R W) :
    W'.cell? ⟨g1, 0, none⟩ = some u1 ∧ W'.cell? ⟨g1, 1, none⟩ = some v1 ∧ W'.cell? ⟨g2, 0, none⟩ = some u2 ∧ W'.cell? ⟨g2, 1, none⟩ = some v2 ∧ BoxAt W' g1 t1 u1 v1 ∧ BoxAt W' g2 t2 u2 v2 ∧ R W' := by
  obtain ⟨_, _, _, _, b1, b2, r⟩ := h
  have c1 := b1.below hb
  have c2 := b2.below hb
  exact ⟨c1.c0, c1.c1, c2.c0, c2.c1, c1, c2, hR _ _ r hb⟩
theorem keep4d {g1 g2 : Nat} {t1 t2 : TypeId} {u1 v1 u2 v2 : Value} {R : World → Prop} (hR : ∀ W W', R W → Below W.heap.size W W' → R W')
    (h : W.cell? ⟨g1, 0, none⟩ = some u1 ∧ W.cell? ⟨g1, 1, none⟩ = some v1 ∧ W.cell? ⟨g2, 0, none⟩ = some u2 ∧ W.cell? ⟨g2, 1, none⟩ = some v2 ∧ BoxAt W g1 t1 u1 v1 ∧ BoxAt W g2 t2 u2 v2 ∧ R W) :
    W.drew.cell? ⟨g1, 0, none⟩ = some u1 ∧ W.drew.cell? ⟨g1, 1, none⟩ = some v1 ∧ W.drew.cell? ⟨g2, 0, none⟩ = some u2 ∧ W.drew.cell? ⟨g2, 1, none⟩ = some v2 ∧ BoxAt W.drew g1 t1 u1 v1 ∧ BoxAt W.drew g2 t2 u2 v2 ∧ R W.drew := keep4 hR (Below.drew (Below.refl _ _)) h
theorem rest4 {g1 g2 : Nat} {t1 t2 : TypeId} {u1 v1 u2 v2 : Value} {R : World → Prop}
    (h : W.cell? ⟨g1, 0, none⟩ = some u1 ∧ W.cell? ⟨g1, 1, none⟩ = some v1 ∧ W.cell? ⟨g2, 0, none⟩ = some u2 ∧ W.cell? ⟨g2, 1, none⟩ = some v2 ∧ BoxAt W g1 t1 u1 v1 ∧ BoxAt W g2 t2 u2 v2 ∧ R W) : R W := h.2.2.2.2.2.2
end

/-- Small meshes: what the laws' bound on sizes leaves. -/
def SmallM (L : List S38) (T : List (List Int)) : Prop := L.length ≤ 1048576 ∧ T.length ≤ 1048576 ∧ (∀ t ∈ T, t.length ≤ 1048576)

theorem sz_step (w W : World) (A : Option Addr) (c : Nat) (L : List S38) (B : Option Addr) (e : Nat) (T : List (List Int)) (h : CameM w A c L B e T) (ok : MeshOk L T) (a : Int) (ha : 0 ≤ a) (ha1 : a ≤ 1048576) :
    ∃ r : Int, (0 ≤ r → SmallM L T) ∧ r ≤ 1048576 ∧ ∀ W, Below w.heap.size w W → Calls Try.prog 9 #[.agg #[.slice A L.length c, .slice B T.length e], .int .i64 a] W fun e w' => e = .returned (.int .i64 r) ∧ Below W.heap.size W w' := by
  obtain ⟨r, hr, hr1, hs⟩ := szMesh_f L T ok.lp ok.lt ok.lr 1048578 (by omega) a ha ha1
  refine ⟨r, fun h0 => hs h0, hr1, fun W hb => ?_⟩
  have h' := h.below hb
  exact laws_szMesh.calls 1048578 A c L B e T a r W h'.1 h'.2.1 h'.2.2.1 h'.2.2.2 hr

theorem to_step (w : World) (A : Option Addr) (c : Nat) (L : List S38) (B : Option Addr) (e : Nat) (T : List (List Int)) (h : CameM w A c L B e T) (hs : SmallM L T) (P : List S40) (hP : P = L.map toV) :
    ∀ W, Below w.heap.size w W → Calls Try.prog 11 #[.agg #[.slice A L.length c, .slice B T.length e]] W fun E w' => ∃ A' c' B' e', E = .returned (.agg #[.slice A' P.length c', .slice B' T.length e']) ∧ OwnM w' W.heap.size w'.heap.size (.slice A' P.length c') (.slice B' T.length e') P T ∧ Below W.heap.size W w' ∧ Below w.heap.size w w' := by
  intro W hb
  have h' := h.below hb
  have hf := toMesh_f L T hs.1 hs.2.1 hs.2.2 2097156 (by omega)
  rw [← hP] at hf
  refine (laws_toMesh.calls 2097156 A c L B e T P T W h'.1 h'.2.1 h'.2.2.1 h'.2.2.2 hf).mono ?_
  rintro E w' ⟨v0, v1, rfl, hR, hS, hbw⟩
  obtain ⟨A', c', rfl⟩ := Kd.R_slice hR
  obtain ⟨B', e', rfl⟩ := Kd.S_slice hS
  exact ⟨A', c', B', e', rfl, ⟨R_in hR, S_in hS⟩, hbw, below_then hb hbw hb.size⟩

theorem eq_step (P P' : List S40) (T : List (List Int)) (hp : simP P P') (h1 : P.length ≤ 1048576) (h2 : T.length ≤ 1048576) (h3 : ∀ t ∈ T, t.length ≤ 1048576) (W : World) (A A' B B' : Option Addr) (n n' c c' m m' e e' a b a' b' : Nat)
    (x : OwnM W a b (.slice A P.length c) (.slice B T.length e) P T) (y : OwnM W a' b' (.slice A' P'.length c') (.slice B' T.length e') P' T) :
    Calls Try.prog 13 #[.agg #[.slice A P.length c, .slice B T.length e], .agg #[.slice A' P'.length c', .slice B' T.length e']] W fun E w' => E = .returned (.bool true) ∧ Below W.heap.size W w' :=
  laws_eqMesh.calls 2097156 A c P B e T A' c' P' B' e' T true W x.C.1 x.C.2.1 x.C.2.2.1 x.C.2.2.2 y.C.1 y.C.2.1 y.C.2.2.1 y.C.2.2.2 (eqMesh_f P P' T hp h1 h2 h3 _ (by omega))

theorem eqI_step (l : List Int) (h1 : l.length ≤ 1048576) (W : World) (A A' : Option Addr) (c c' a b a' b' : Nat) (x : OwnI W a b (.slice A l.length c) l) (y : OwnI W a' b' (.slice A' l.length c') l) :
    Calls Try.prog 61 #[.slice A l.length c, .slice A' l.length c'] W fun E w' => E = .returned (.bool true) ∧ Drawn0 W w' :=
  laws_eqInt64S.calls 1048578 A c l A' c' l true W x.C.1 x.C.2 y.C.1 y.C.2 (eqI_f l h1 _ (by omega))

theorem markI_step (l : List Int) (h1 : l.length ≤ 1048576) (q : Int) (hq : 0 ≤ q) (hq1 : q ≤ 1099511627776) (W : World) (A : Option Addr) (c a b : Nat) (x : OwnI W a b (.slice A l.length c) l) (b0 : Nat) (w0 : World) (K : Below b0 w0 W) (hb0 : b0 ≤ a) (hbw : b0 ≤ W.heap.size) :
    Calls Try.prog 62 #[.slice A l.length c, .int .i64 q] W fun E w' => E = .returned (.int .i64 (q + (l.length : Int))) ∧ OwnI w' a b (.slice A l.length c) (marksA q l.length) ∧ Kept W w' (In a b) ∧ Below b0 w0 w' := by
  refine (mark_ints _ l h1 q hq (by omega) W a (Kd.own_of_R x)).mono ?_
  rintro E w' ⟨rfl, ho, hg⟩
  exact ⟨rfl, Kd.R_of_own (by rw [marksA_len]; exact ho) (fun k hk => x.1 k hk), kept_grown hg (fun k hk => x.1 k hk), Below.grown K hg hbw (fun k hk => Nat.le_trans hb0 (x.1 k hk).1)⟩

theorem heldI_step (n : Nat) (h1 : n ≤ 1048576) (q : Int) (hq : 0 ≤ q) (hq1 : q ≤ 1099511627776) (W : World) (A : Option Addr) (c a b : Nat) (x : OwnI W a b (.slice A n c) (marksA q n)) :
    Calls Try.prog 63 #[.slice A n c, .int .i64 q] W fun E w' => E = .returned (.int .i64 (q + (n : Int))) ∧ Drawn0 W w' := by
  have hl := marksA_len q n
  have h := laws_heldInt64S.calls 1048577 A c (marksA q n) q (q + (n : Int)) W x.C.1 x.C.2 (held_fA q hq (by omega) n h1)
  rw [hl] at h
  exact h

theorem own_rebase {w : World} {base base' : Nat} {e : TypeId} {size n : Nat} {v : Value} {xs : List Value} (h : w.ownsRow base e size v n xs) (hb : ∀ k, v.ownBlock = some k → base' ≤ k) : w.ownsRow base' e size v n xs := by
  obtain ⟨h1, h2⟩ := h
  refine ⟨h1, ?_⟩
  rcases h2 with h2 | ⟨g, cap, cur, rfl, hg, r⟩
  · exact .inl h2
  · exact .inr ⟨g, cap, cur, rfl, hb g rfl, r⟩

/-- A vector of three marks. -/
def mkV (q : Int) : S40 := ⟨floatOfInt .f32 q, floatOfInt .f32 (q + 1), floatOfInt .f32 (q + 2)⟩
def marksV (q : Int) (n : Nat) : List S40 := (List.range n).map fun t : Nat => mkV (q + 3 * (t : Int))
theorem marksV_len (q : Int) (n : Nat) : (marksV q n).length = n := by simp [marksV]
theorem marksV_get (q : Int) (n i : Nat) (h : i < (marksV q n).length) : (marksV q n)[i] = mkV (q + 3 * (i : Int)) := by simp [marksV]
def partV (q : Int) (l : List S40) (i : Nat) : List S40 := marksV q i ++ l.drop i
theorem partV_len (q : Int) (l : List S40) (i : Nat) (h : i ≤ l.length) : (partV q l i).length = l.length := by simp [partV, marksV_len]; omega
theorem partV_all (q : Int) (l : List S40) : partV q l l.length = marksV q l.length := by simp [partV]
theorem partV_set (q : Int) (l : List S40) (i : Nat) (h : i < l.length) : (partV q l i).set i (mkV (q + 3 * (i : Int))) = partV q l (i + 1) := by
  have e1 : marksV q (i + 1) = marksV q i ++ [mkV (q + 3 * (i : Int))] := by simp [marksV, List.range_succ]
  have e2 : l.drop i = l[i] :: l.drop (i + 1) := List.drop_eq_getElem_cons h
  have hm : (marksV q i).length = i := marksV_len q i
  unfold partV
  rw [e1, e2, List.set_append, if_neg (by omega), hm, Nat.sub_self, List.set_cons_zero, List.append_assoc]
  rfl
theorem rd_set (Q : List S40) (i : Nat) (h : i < Q.length) (x : S40) : rd_T40 (Q.set i x) (i : Int) = x := by
  rw [rdV _ _ (by rw [List.length_set]; exact h), List.getElem_set_self]

theorem markV_loop (P : List S40) (q : Int) (h0 : 0 ≤ q) (hq : q ≤ 1099511627776) (hP : P.length ≤ 1048576) (d : Nat) : ∀ (k i : Nat), i ≤ P.length → P.length - i = d → d < k → laws_markVectorS.l0 k (partV q P i) (q + 3 * (i : Int)) (i : Int) = some (q + 3 * (P.length : Int), marksV q P.length) := by
  induction d with
  | zero =>
    intro k i hi hd hk
    obtain ⟨k, rfl⟩ : ∃ j, k = j + 1 := ⟨k - 1, by omega⟩
    have hl := partV_len q P i hi
    obtain rfl : i = P.length := by omega
    simp only [laws_markVectorS.l0]
    rw [if_neg (by omega), partV_all]
  | succ d ih =>
    intro k i hi hd hk
    obtain ⟨k, rfl⟩ : ∃ j, k = j + 1 := ⟨k - 1, by omega⟩
    have hl := partV_len q P i hi
    have hil : i < (partV q P i).length := by omega
    simp only [laws_markVectorS.l0]
    rw [if_pos (by omega), if_pos (by omega)]
    simp only [Option.bind_some]
    rw [Msh.wrap_fit (x := q + 3 * (i : Int) + 1) (by omega) (by omega), Msh.wrap_fit (x := q + 3 * (i : Int) + 1 + 1) (by omega) (by omega), Msh.wrap_fit (x := q + 3 * (i : Int) + 1 + 1 + 1) (by omega) (by omega), up i (by omega), Int.toNat_natCast]
    simp only [List.set_set, rd_set _ _ hil]
    have e := ih k (i + 1) (by omega) (by omega) (by omega)
    rw [← partV_set q P i (by omega)] at e
    rw [show q + 3 * (i : Int) + 1 + 1 + 1 = q + 3 * ((i + 1 : Nat) : Int) by omega, show q + 3 * (i : Int) + 1 + 1 = q + 3 * (i : Int) + 2 by omega]
    exact e

theorem markV_step (P : List S40) (h1 : P.length ≤ 1048576) (q : Int) (hq : 0 ≤ q) (hq1 : q ≤ 1099511627776) (W : World) (v : Value) (a b : Nat) (x : Kd.R k40 40 W a (In a b) v P) (w0 : World) (K : Below w0.heap.size w0 W) (hb0 : w0.heap.size ≤ a) :
    Calls Try.prog 37 #[v, .int .i64 q] W fun E w' => E = .returned (.int .i64 (q + 3 * (P.length : Int))) ∧ Kd.R k40 40 w' a (In a b) v (marksV q P.length) ∧ Kept W w' (fun k => some k = v.ownBlock) ∧ Below w0.heap.size w0 w' := by
  have hf := markV_loop P q hq hq1 h1 P.length 1048577 0 (by omega) (by omega) (by omega)
  rw [show q + 3 * ((0 : Nat) : Int) = q by omega, show ((0 : Nat) : Int) = 0 from rfl, show partV q P 0 = P by simp [partV, marksV]] at hf
  have hE : (k40 : Kd S40).E = [] := rfl
  refine (laws_markVectorS.calls 1048577 (fun k => some k = v.ownBlock) v P q (q + 3 * (P.length : Int)) (marksV q P.length) w0 W K (Kd.R_lower (Kd.R_tight hE x) hb0) hf).mono ?_
  rintro E w' ⟨rfl, hR, hB, hK⟩
  refine ⟨rfl, ?_, hK, hB⟩
  refine ⟨x.1, ?_⟩
  obtain ⟨_, inner, ho, hr⟩ := hR
  refine ⟨inner, own_rebase ho (fun k hk => (x.1 k hk).1), hr.imp_ (fun p cs hp => ?_)⟩
  obtain rfl := k40_openM hp
  exact k40_mkM _ _ _ p

set_option maxHeartbeats 1000000 in
theorem markM_step (P : List S40) (T : List (List Int)) (h1 : P.length ≤ 1048576) (h2 : T.length ≤ 1048576) (h3 : ∀ t ∈ T, t.length ≤ 1048576) (q : Int) (hq : 0 ≤ q) (hq1 : q ≤ 8) (W : World) (A B : Option Addr) (c e a b : Nat) (x : OwnM W a b (.slice A P.length c) (.slice B T.length e) P T) (w0 : World) (K : Below w0.heap.size w0 W) (hb0 : w0.heap.size ≤ a) (hbW : b ≤ W.heap.size) :
    Calls Try.prog 14 #[.agg #[.slice A P.length c, .slice B T.length e], .int .i64 q] W fun E w' => E = .returned (.int .i64 (q + 3 * (P.length : Int) + (tot T : Int))) ∧ OwnM w' a b (.slice A P.length c) (.slice B T.length e) (marksV q P.length) (marksT (q + 3 * (P.length : Int)) T) ∧ Kept W w' (In a b) ∧ Below w0.heap.size w0 w' := by
  obtain ⟨xP, xT⟩ := x
  have hxP : ∀ k, (Value.slice A P.length c).ownBlock = some k → In a b k := fun k hk => xP.1 k hk
  have xT2 : Kd.S (Kd.slice 2 (Kd.int .i64)) 56 W a (fun k => In a b k ∧ some k ≠ (Value.slice A P.length c).ownBlock) (.slice B T.length e) T := by
    exact Kd.S_apart' xT (Kd.R_typed xP) (by decide)
  have H0 := Lib.hid hb0
  have XP := Lib.hid (Kd.R_alloc xP (.cells #[.slice A P.length c, .slice B T.length e] 29))
  have XT := Lib.hid (Kd.S_alloc xT2 (.cells #[.slice A P.length c, .slice B T.length e] 29))
  have K1 := Lib.hid (below_alloc K (.cells #[.slice A P.length c, .slice B T.length e] 29))
  have H3 := Lib.hid h3
  have HQ2 : Hid (q + 3 * (P.length : Int) ≤ 1099511627776) := Lib.hid (by omega)
  have hstep : ∀ w1 : World, Kept (W.alloc (.cells #[.slice A P.length c, .slice B T.length e] 29)) w1 (fun k => some k = (Value.slice A P.length c).ownBlock) → w1.cell? ⟨W.heap.size, 1, none⟩ = some (.slice B T.length e) := fun w1 hk =>
    cell_kept ((blk_cell (heap_alloc_new W _) 1).trans rfl) hk (fun h => by have := hxP _ h.symm; unfold In at this; simp only at this; omega)
  have HST := Lib.hid hstep
  have hfin : ∀ w1 w2 : World, Kept (W.alloc (.cells #[.slice A P.length c, .slice B T.length e] 29)) w1 (fun k => some k = (Value.slice A P.length c).ownBlock) → Kept w1 w2 (fun k => In a b k ∧ some k ≠ (Value.slice A P.length c).ownBlock) → Kept W w2 (In a b) := fun w1 w2 k1 k2 =>
    (((Kept.refl W (In a b)).alloc _).then_ k1 (fun k hk => .inl (hxP k hk.symm))).then_ k2 (fun k hk => .inl hk.1)
  have HF := Lib.hid hfin
  have hbw := K.size
  clear xP xT xT2 K h3 hstep hbw hb0 hfin hxP hbW
  go_enter Try.func14, Try.ntmps14
  go_wp2_with (first | (go_at_call 37; refine (markV_step P h1 q hq (by omega) _ _ a b XP.out w0 K1.out H0.out).mono ?_; rintro E w1 ⟨rfl, hR, hK, hB⟩; have hc1 := HST.out w1 hK; have R1 := Lib.hid hR; have KK1 := Lib.hid hK; have B1 := Lib.hid hB; clear hR hK hB) | (go_at_call 38; refine (mark_rows _ T h2 H3.out _ (by omega) HQ2.out _ a _ _ w0 B1.out H0.out B1.out.size (Kd.S_kept XT.out KK1.out (fun k hk he => hk.2 he))).mono ?_; rintro E w2 ⟨rfl, hS, hK2, hB2⟩; have S2 := Lib.hid hS; have KK2 := Lib.hid hK2; have B2 := Lib.hid hB2; clear hS hK2 hB2) | fail)
  go_ret
  have hE : (k40 : Kd S40).E = [] := rfl
  refine ⟨rfl, ⟨?_, Kd.S_mono S2.out (fun k hk => hk.1)⟩, HF.out _ _ KK1.out KK2.out, B2.out⟩
  exact Kd.R_mono (Kd.R_kept (Kd.R_tight2 hE R1.out) KK2.out (fun k hk hn => hn.2 hk.1)) (fun k hk => hk.2)

end Go.Proofs.Ytlendjpmblapkab
namespace Go.Proofs.Ytlendjpmblapkab
open Fl Go.RowKit Go.Proofs.YtlendjpmblapkabW.PrintWords Go.Proofs.Ytlendjpmblapkab.PMesh Msh
set_option linter.unusedVariables false

theorem held_fAk (a : Int) (ha : 0 ≤ a) (ha1 : a ≤ 1152921504606846976) (n : Nat) (hl : n ≤ 1048576) (k : Nat) (hk : n < k) : laws_heldInt64S.f k (marksA a n) a = some (a + (n : Int)) := by
  unfold laws_heldInt64S.f
  have := held_loopA a ha ha1 n hl n k 0 (by omega) (by omega) (by omega)
  rw [show a + ((0 : Nat) : Int) = a by omega] at this
  exact this

theorem ofInt_eq (n : Int) : (FloatKind.f32.format.order (floatOfInt .f32 n) (floatOfInt .f32 n) != some Ordering.eq) = false := by
  have h : val .f32 (floatOfInt .f32 n) = some (floatOfInt .f32 n) := write_val .f32 (d := .number (decide (n < 0)) n.natAbs 0) rfl
  rw [order_self h]; rfl

theorem heldV_loop (q : Int) (h0 : 0 ≤ q) (hq : q ≤ 1099511627776) (n : Nat) (hn : n ≤ 1048576) (d : Nat) : ∀ (k i : Nat), i ≤ n → n - i = d → d < k → laws_heldVectorS.l0 k (marksV q n) (q + 3 * (i : Int)) (i : Int) = some (q + 3 * (n : Int)) := by
  have hl := marksV_len q n
  induction d with
  | zero =>
    intro k i hi hd hk
    obtain ⟨k, rfl⟩ : ∃ j, k = j + 1 := ⟨k - 1, by omega⟩
    obtain rfl : i = n := by omega
    simp only [laws_heldVectorS.l0]
    rw [if_neg (by omega)]
  | succ d ih =>
    intro k i hi hd hk
    obtain ⟨k, rfl⟩ : ∃ j, k = j + 1 := ⟨k - 1, by omega⟩
    have hil : i < (marksV q n).length := by omega
    simp only [laws_heldVectorS.l0]
    rw [if_pos (by omega), if_pos (by omega), rdV _ i hil, marksV_get q n i hil]
    rw [Msh.wrap_fit (x := q + 3 * (i : Int) + 1) (by omega) (by omega), Msh.wrap_fit (x := q + 3 * (i : Int) + 1 + 1) (by omega) (by omega), Msh.wrap_fit (x := q + 3 * (i : Int) + 1 + 1 + 1) (by omega) (by omega), up i (by omega)]
    have e := ih k (i + 1) (by omega) (by omega) (by omega)
    rw [show q + 3 * (i : Int) + 1 + 1 + 1 = q + 3 * ((i + 1 : Nat) : Int) by omega, show q + 3 * (i : Int) + 1 + 1 = q + 3 * (i : Int) + 2 by omega]
    simp only [mkV, ofInt_eq]
    simpa using e

theorem heldT_loop (X : List (List Int)) (hX : X.length ≤ 1048576) : ∀ (S : List (List Int)) (a : Int) (k j : Nat), X.drop j = marksT a S → j + S.length = X.length → 0 ≤ a → a + (tot S : Int) ≤ 1152921504606846976 → (∀ t ∈ S, t.length ≤ 1048576) → S.length + 1048577 < k →
    laws_heldInt64SS.l0 k X a (j : Int) = some (a + (tot S : Int)) := by
  intro S
  induction S with
  | nil =>
    intro a k j hd hj h0 h1 h2 hk
    obtain ⟨k, rfl⟩ : ∃ j, k = j + 1 := ⟨k - 1, by omega⟩
    simp only [laws_heldInt64SS.l0, List.length_nil] at hj ⊢
    rw [if_neg (by omega)]
    simp [tot]
  | cons t r ih =>
    intro a k j hd hj h0 h1 h2 hk
    obtain ⟨k, rfl⟩ : ∃ j, k = j + 1 := ⟨k - 1, by omega⟩
    simp only [List.length_cons, tot] at hj h1 hk
    have hjl : j < X.length := by omega
    have ht := h2 t List.mem_cons_self
    rw [List.drop_eq_getElem_cons hjl] at hd
    simp only [marksT, List.cons.injEq] at hd
    obtain ⟨hd1, hd2⟩ := hd
    simp only [laws_heldInt64SS.l0]
    rw [if_pos (by omega), if_pos (by omega), rdL X j hjl, hd1, held_fAk a h0 (by omega) _ ht k (by omega)]
    simp only [Option.bind_some]
    rw [if_neg (by omega), up j (by omega), ih (a + (t.length : Int)) k (j + 1) hd2 (by omega) (by omega) (by omega) (fun x hx => h2 x (List.mem_cons_of_mem _ hx)) (by omega)]
    congr 1
    simp only [tot]
    omega

theorem heldM_f (q : Int) (h0 : 0 ≤ q) (hq : q ≤ 8) (n : Nat) (hn : n ≤ 1048576) (T : List (List Int)) (h2 : T.length ≤ 1048576) (h3 : ∀ t ∈ T, t.length ≤ 1048576) :
    laws_heldMesh.f 2097156 (marksV q n) (marksT (q + 3 * (n : Int)) T) q = some (q + 3 * (n : Int) + (tot T : Int)) := by
  have ht := tot_le T h3
  have hT : tot T ≤ 1099511627776 := Nat.le_trans ht (by omega)
  unfold laws_heldMesh.f laws_heldVectorS.f
  have e := heldV_loop q h0 (by omega) n hn n 2097156 0 (by omega) (by omega) (by omega)
  rw [show q + 3 * ((0 : Nat) : Int) = q by omega, show ((0 : Nat) : Int) = 0 from rfl] at e
  rw [e]
  simp only [Option.bind_some]
  rw [if_neg (by omega)]
  unfold laws_heldInt64SS.f
  have e2 := heldT_loop (marksT (q + 3 * (n : Int)) T) (by rw [marksT_len]; exact h2) T (q + 3 * (n : Int)) 2097156 0 (by rw [List.drop_zero]) (by rw [marksT_len]; omega) (by omega) (by omega) h3 (by omega)
  rw [show ((0 : Nat) : Int) = 0 from rfl] at e2
  rw [e2]
  simp only [Option.bind_some]
  rw [if_neg (by omega)]

theorem heldM_step (P : List S40) (T : List (List Int)) (h1 : P.length ≤ 1048576) (h2 : T.length ≤ 1048576) (h3 : ∀ t ∈ T, t.length ≤ 1048576) (q : Int) (hq : 0 ≤ q) (hq1 : q ≤ 8) (W : World) (A B : Option Addr) (c e a b : Nat) (x : OwnM W a b (.slice A P.length c) (.slice B T.length e) (marksV q P.length) (marksT (q + 3 * (P.length : Int)) T)) :
    Calls Try.prog 15 #[.agg #[.slice A P.length c, .slice B T.length e], .int .i64 q] W fun E w' => E = .returned (.int .i64 (q + 3 * (P.length : Int) + (tot T : Int))) ∧ Below W.heap.size W w' := by
  have l1 := marksV_len q P.length
  have l2 := marksT_len T (q + 3 * (P.length : Int))
  have hC := OwnM.C x
  have h := laws_heldMesh.calls 2097156 A c (marksV q P.length) B e (marksT (q + 3 * (P.length : Int)) T) q _ W hC.1 hC.2.1 hC.2.2.1 hC.2.2.2 (heldM_f q hq hq1 P.length h1 T h2 h3)
  rw [l1, l2] at h
  exact h
end Go.Proofs.Ytlendjpmblapkab
namespace Go.Proofs.Ytlendjpmblapkab
open Fl Go.RowKit Go.Proofs.YtlendjpmblapkabW.PrintWords Go.Proofs.YtlendjpmblapkabW.PrintLast Go.Proofs.YtlendjpmblapkabW.PrintMore Go.Proofs.Ytlendjpmblapkab.PMesh Msh
set_option linter.unusedVariables false

/-- A corner's part. -/
def pickF (s : Nat) (b : Int) : Nat := if b = 0 then 0 else s
/-- A corner of the box. -/
def boxP (s : Nat) (i : Nat) : S40 := ⟨pickF s ((i % 2 : Nat) : Int), pickF s ((i / 2 % 2 : Nat) : Int), pickF s ((i / 4 : Nat) : Int)⟩

theorem cell2 {W : World} {g s : Nat} {t : TypeId} {b : Int} (h : W.heap[g]? = some (.cells #[.float .f32 0, .float .f32 s] t (0, 0))) (h0 : 0 ≤ b) (h1 : b < 2) : W.cell? ⟨g, b.toNat, none⟩ = some (.float .f32 (pickF s b)) := by
  obtain rfl | rfl : b = 0 ∨ b = 1 := by omega
  · exact (blk_cell h 0).trans rfl
  · exact (blk_cell h 1).trans rfl

def boxPs (s : Nat) : List S40 := (List.range 8).map (boxP s)
def boxL : List Int := [0, 2, 3, 0, 3, 1, 4, 5, 7, 4, 7, 6, 0, 1, 5, 0, 5, 4, 2, 6, 7, 2, 7, 3, 0, 4, 6, 0, 6, 2, 1, 3, 7, 1, 7, 5]
def boxT : List (List Int) := [[0, 2, 3], [0, 3, 1], [4, 5, 7], [4, 7, 6], [0, 1, 5], [0, 5, 4], [2, 6, 7], [2, 7, 3], [0, 4, 6], [0, 6, 2], [1, 3, 7], [1, 7, 5]]
/-- What BoxMesh answers. -/
def boxR (s : Nat) : List S40 × List (List Int) × Bool := if G8.sizeB s = true then (boxPs s, boxT, true) else ([], [], false)
/-- What a function with a mesh and a bool leaves. -/
def AnsM (w : World) (P : List S40) (T : List (List Int)) (b : Bool) (E : Ending) (w' : World) : Prop := ∃ A c B e, E = .returned (.tuple #[.agg #[.slice A P.length c, .slice B T.length e], .bool b]) ∧ OwnM w' w.heap.size w'.heap.size (.slice A P.length c) (.slice B T.length e) P T ∧ Below w.heap.size w w'
theorem boxL_f : impl_trianglesFrom.f 40 boxL = some boxT := by decide +kernel
theorem bits8 : ∀ i : Fin 8, Go.bits .and .i64 ((i.val : Nat) : Int) 1 = ((i.val % 2 : Nat) : Int) ∧ Go.bits .and .i64 (((i.val : Nat) : Int) / 2) 1 = ((i.val / 2 % 2 : Nat) : Int) ∧ ((i.val : Nat) : Int) / 4 = ((i.val / 4 : Nat) : Int) := by decide

set_option maxHeartbeats 4000000 in
set_option maxRecDepth 100000 in
theorem impl_BoxMesh (s : Nat) (w : World) :
    Calls Try.prog 24 #[.float .f32 s] w (AnsM w (boxR s).1 (boxR s).2.1 (boxR s).2.2) := by
  by_cases hs : G8.sizeB s = true
  · have hr : boxR s = (boxPs s, boxT, true) := by unfold boxR; rw [if_pos hs]
    rw [hr]
    have HS := Lib.hid hs
    clear hr
    have hu68 := Try.underlying68
    go_enter Try.func24, Try.ntmps24
    go_wp2_with (first | (go_at_call 51; refine (G8.impl_isOver _ _).mono ?_; rw [HS.out]; rintro e w1 ⟨rfl, n, rfl⟩) | fail)
    obtain ⟨w0, hw0⟩ : ∃ W, W = ((((w.alloc (.cells #[.slice none 0 0, .slice none 0 0] 29)).drewN n).alloc (.cells #[.slice none 0 0, .slice none 0 0] 29)).alloc (.cells #[.float .f32 0, .float .f32 s] 68)) := ⟨_, rfl⟩
    rw [← hw0]
    go_loopw [14] (fun k wr => ∃ (i : Nat) (u : Value), i ≤ 8 ∧ k = .int .i64 (i : Int) ∧ Hid (Below w.heap.size w wr) ∧ Hid (wr.heap[w.heap.size]? = some (.cells #[.slice none 0 0, .slice none 0 0] 29 (0, 0))) ∧ Hid (wr.heap[w.heap.size + 1]? = some (.cells #[u, .slice none 0 0] 29 (0, 0))) ∧ Hid (wr.heap[w.heap.size + 1 + 1]? = some (.cells #[.float .f32 0, .float .f32 s] 68 (0, 0))) ∧ Hid (Kd.R k40 40 wr w.heap.size (fun k => k ≠ w.heap.size ∧ k ≠ w.heap.size + 1) u ((List.range i).map (boxP s)))) (fun k _ => 8 - (intOf k).toNat)
    case atStart =>
      have hA := heap_alloc_new w (.cells #[.slice none 0 0, .slice none 0 0] 29)
      have hB := heap_alloc_new ((w.alloc (.cells #[.slice none 0 0, .slice none 0 0] 29)).drewN n) (.cells #[.slice none 0 0, .slice none 0 0] 29)
      have hC := heap_alloc_new (((w.alloc (.cells #[.slice none 0 0, .slice none 0 0] 29)).drewN n).alloc (.cells #[.slice none 0 0, .slice none 0 0] 29)) (.cells #[.float .f32 0, .float .f32 s] 68)
      have e1 : ((w.alloc (.cells #[.slice none 0 0, .slice none 0 0] 29)).drewN n).heap.size = w.heap.size + 1 := by simp
      have e2 : (((w.alloc (.cells #[.slice none 0 0, .slice none 0 0] 29)).drewN n).alloc (.cells #[.slice none 0 0, .slice none 0 0] 29)).heap.size = w.heap.size + 1 + 1 := by simp
      rw [e1] at hB
      rw [e2] at hC
      refine ⟨0, .slice none 0 0, by omega, rfl, ?_, ?_, ?_, ?_, ?_⟩
      · rw [hw0]; exact Lib.hid (below_alloc (below_alloc (pw_below_drewN (below_alloc (Below.refl _ _) _) _) _) _)
      · rw [hw0]; exact Lib.hid (blk_alloc (blk_alloc (blk_drewN hA _) _) _)
      · rw [hw0]; exact Lib.hid (blk_alloc hB _)
      · rw [hw0]; exact Lib.hid hC
      · exact Lib.hid (Kd.R_nil _ _ _ _ _)
    case round =>
      obtain ⟨i, u, hi, rfl, HB, B2, B4, B5, HO⟩ := hrel
      by_cases hlt : i < 8
      · have b1 : (i : Int) < 8 := by omega
        obtain ⟨b0, hb0⟩ : ∃ b, Go.bits .and .i64 (i : Int) 1 = b := ⟨_, rfl⟩
        obtain ⟨c2, hc2⟩ : ∃ b, (i : Int) / 2 = b := ⟨_, rfl⟩
        obtain ⟨b2, hb2⟩ : ∃ b, Go.bits .and .i64 c2 1 = b := ⟨_, rfl⟩
        obtain ⟨b3, hb3⟩ : ∃ b, (i : Int) / 4 = b := ⟨_, rfl⟩
        obtain ⟨e0, e2, e3⟩ := bits8 ⟨i, hlt⟩
        dsimp only at e0 e2 e3
        rw [hb0] at e0
        rw [hc2, hb2] at e2
        rw [hb3] at e3
        have hbox : boxP s i = ⟨pickF s b0, pickF s b2, pickF s b3⟩ := by rw [e0, e2, e3]; rfl
        have HBOX := Lib.hid hbox
        have hp : (0 ≤ b0 ∧ b0 < 2) ∧ (0 ≤ b2 ∧ b2 < 2) ∧ (0 ≤ b3 ∧ b3 < 2) := by omega
        clear e0 e2 e3 hbox
        obtain ⟨⟨p0, q0⟩, ⟨p2, q2⟩, p3, q3⟩ := hp
        have hp0 := Lib.hid p0; have hq0 := Lib.hid q0; have hp2 := Lib.hid p2; have hq2 := Lib.hid q2; have hp3 := Lib.hid p3; have hq3 := Lib.hid q3
        replace p0 := eq_true p0; replace q0 := eq_true q0; replace p2 := eq_true p2; replace q2 := eq_true q2; replace p3 := eq_true p3; replace q3 := eq_true q3
        go_wp2_with fail
        have CB := Lib.hid (Below.drew HB.out)
        have C2 : Hid (wr.drew.heap[w.heap.size]? = some (.cells #[.slice none 0 0, .slice none 0 0] 29 (0, 0))) := B2
        have C4 : Hid (wr.drew.heap[w.heap.size + 1]? = some (.cells #[u, .slice none 0 0] 29 (0, 0))) := B4
        have C5 : Hid (wr.drew.heap[w.heap.size + 1 + 1]? = some (.cells #[.float .f32 0, .float .f32 s] 68 (0, 0))) := B5
        have CO := Lib.hid (Kd.R_drew HO.out)
        refine start_ (n := 20) (S := fun w' => w'.cell? ⟨w.heap.size + 1, 0, none⟩ = some u ∧ w'.cell? ⟨w.heap.size + 1 + 1, b0.toNat, none⟩ = some (.float .f32 (pickF s b0)) ∧ w'.cell? ⟨w.heap.size + 1 + 1, b2.toNat, none⟩ = some (.float .f32 (pickF s b2)) ∧ w'.cell? ⟨w.heap.size + 1 + 1, b3.toNat, none⟩ = some (.float .f32 (pickF s b3))) (ds := [19]) #[false, false, false, false, false, false, false, false, false, false, false, false, false, false, false, false, false, false, false, false] (by kernel_rfl) rfl rfl ⟨(blk_cell B4.out 0).trans rfl, cell2 B5.out hp0.out hq0.out, cell2 B5.out hp2.out hq2.out, cell2 B5.out hp3.out hq3.out⟩ (fun hHeld => ?_)
        generalize wr.drew = w13 at CB C2 C4 C5 CO hHeld ⊢
        clear HB B2 B4 B5 HO
        refine pure_ (i := 0) (N := some 17) (v := ?_) (a' := ?_) #[true, false, false, false, false, false, false, false, false, false, false, false, false, false, false, false, false, false, false, false] rfl rfl (by kernel_rfl) (fun _ _ _ h => h) (Or.inl ⟨by rfl, ?_⟩) ?_ ?_
        rotate_left
        · intro w'
          go_simp
          with_reducible rfl
        rotate_left
        · simp only [Act.put, List.setIfInBounds_toArray, List.set_cons_zero, List.set_cons_succ]; rfl
        refine pure_ (i := 2) (N := some 19) (v := ?_) (a' := ?_) #[true, false, true, false, false, false, false, false, false, false, false, false, false, false, false, false, false, false, false, false] rfl rfl (by kernel_rfl) (fun _ _ _ h => h) (Or.inl ⟨by rfl, ?_⟩) ?_ ?_
        rotate_left
        · intro w'
          go_simp
          with_reducible rfl
        rotate_left
        · simp only [Act.put, List.setIfInBounds_toArray, List.set_cons_zero, List.set_cons_succ]; rfl
        refine pure_ (i := 3) (N := some 20) (v := ?_) (a' := ?_) #[true, false, true, true, false, false, false, false, false, false, false, false, false, false, false, false, false, false, false, false] rfl rfl (by kernel_rfl) (fun _ _ _ h => h) (Or.inl ⟨by rfl, ?_⟩) ?_ ?_
        rotate_left
        · intro w'
          go_simp
          with_reducible rfl
        rotate_left
        · simp only [Act.put, List.setIfInBounds_toArray, List.set_cons_zero, List.set_cons_succ]; rfl
        refine pure_ (i := 4) (N := some 21) (v := ?_) (a' := ?_) #[true, false, true, true, true, false, false, false, false, false, false, false, false, false, false, false, false, false, false, false] rfl rfl (by kernel_rfl) (fun _ _ _ h => h) (Or.inl ⟨by rfl, ?_⟩) ?_ ?_
        rotate_left
        · intro w'
          go_simp
          with_reducible rfl
        rotate_left
        · simp only [Act.put, List.setIfInBounds_toArray, List.set_cons_zero, List.set_cons_succ]; rfl
        refine pure_ (i := 6) (N := some 23) (v := ?_) (a' := ?_) #[true, false, true, true, true, false, true, false, false, false, false, false, false, false, false, false, false, false, false, false] rfl rfl (by kernel_rfl) (fun _ _ _ h => h) (Or.inl ⟨by rfl, ?_⟩) ?_ ?_
        rotate_left
        · intro w'
          go_simp
          with_reducible rfl
        rotate_left
        · simp only [Act.put, List.setIfInBounds_toArray, List.set_cons_zero, List.set_cons_succ]; rfl
        refine pure_ (i := 7) (N := some 24) (v := ?_) (a' := ?_) #[true, false, true, true, true, false, true, true, false, false, false, false, false, false, false, false, false, false, false, false] rfl rfl (by kernel_rfl) (fun _ _ _ h => h) (Or.inl ⟨by rfl, ?_⟩) ?_ ?_
        rotate_left
        · intro w'
          go_simp
          with_reducible rfl
        rotate_left
        · simp only [Act.put, List.setIfInBounds_toArray, List.set_cons_zero, List.set_cons_succ]; rfl
        refine pure_ (i := 8) (N := some 25) (v := ?_) (a' := ?_) #[true, false, true, true, true, false, true, true, true, false, false, false, false, false, false, false, false, false, false, false] rfl rfl (by kernel_rfl) (fun _ _ _ h => h) (Or.inl ⟨by rfl, ?_⟩) ?_ ?_
        rotate_left
        · intro w'
          go_simp
          with_reducible rfl
        rotate_left
        · simp only [Act.put, List.setIfInBounds_toArray, List.set_cons_zero, List.set_cons_succ]; rfl
        refine pure_ (i := 9) (N := some 26) (v := ?_) (a' := ?_) #[true, false, true, true, true, false, true, true, true, true, false, false, false, false, false, false, false, false, false, false] rfl rfl (by kernel_rfl) (fun _ _ _ h => h) (Or.inl ⟨by rfl, ?_⟩) ?_ ?_
        rotate_left
        · intro w'
          go_simp
          with_reducible rfl
        rotate_left
        · simp only [Act.put, List.setIfInBounds_toArray, List.set_cons_zero, List.set_cons_succ]; rfl
        refine pure_ (i := 11) (N := some 28) (v := ?_) (a' := ?_) #[true, false, true, true, true, false, true, true, true, true, false, true, false, false, false, false, false, false, false, false] rfl rfl (by kernel_rfl) (fun _ _ _ h => h) (Or.inl ⟨by rfl, ?_⟩) ?_ ?_
        rotate_left
        · intro w'
          go_simp
          with_reducible rfl
        rotate_left
        · simp only [Act.put, List.setIfInBounds_toArray, List.set_cons_zero, List.set_cons_succ]; rfl
        refine pure_ (i := 12) (N := some 29) (v := ?_) (a' := ?_) #[true, false, true, true, true, false, true, true, true, true, false, true, true, false, false, false, false, false, false, false] rfl rfl (by kernel_rfl) (fun _ _ _ h => h) (Or.inl ⟨by rfl, ?_⟩) ?_ ?_
        rotate_left
        · intro w'
          go_simp
          with_reducible rfl
        rotate_left
        · simp only [Act.put, List.setIfInBounds_toArray, List.set_cons_zero, List.set_cons_succ]; rfl
        refine pure_ (i := 13) (N := some 30) (v := ?_) (a' := ?_) #[true, false, true, true, true, false, true, true, true, true, false, true, true, true, false, false, false, false, false, false] rfl rfl (by kernel_rfl) (fun _ _ _ h => h) (Or.inl ⟨by rfl, ?_⟩) ?_ ?_
        rotate_left
        · intro w'
          go_simp
          with_reducible rfl
        rotate_left
        · simp only [Act.put, List.setIfInBounds_toArray, List.set_cons_zero, List.set_cons_succ]; rfl
        refine take_ (i := 1) (N := some 18) (v := ?_) (a' := ?_) #[true, true, true, true, true, false, true, true, true, true, false, true, true, true, false, false, false, false, false, false] rfl rfl (by kernel_rfl) (fun _ _ _ h => h) (Or.inl ⟨by rfl, ?_⟩) hHeld ?_ ?_
        rotate_left
        · intro w' hSw
          (try dsimp only at hSw)
          go_simp
          with_reducible rfl
        rotate_left
        · simp only [Act.put, List.setIfInBounds_toArray, List.set_cons_zero, List.set_cons_succ]; rfl
        refine take_ (i := 5) (N := some 22) (v := ?_) (a' := ?_) #[true, true, true, true, true, true, true, true, true, true, false, true, true, true, false, false, false, false, false, false] rfl rfl (by kernel_rfl) (fun _ _ _ h => h) (Or.inl ⟨by rfl, ?_⟩) hHeld ?_ ?_
        rotate_left
        · intro w' hSw
          (try dsimp only at hSw)
          go_simp
          with_reducible rfl
        rotate_left
        · simp only [Act.put, List.setIfInBounds_toArray, List.set_cons_zero, List.set_cons_succ]; rfl
        refine take_ (i := 10) (N := some 27) (v := ?_) (a' := ?_) #[true, true, true, true, true, true, true, true, true, true, true, true, true, true, false, false, false, false, false, false] rfl rfl (by kernel_rfl) (fun _ _ _ h => h) (Or.inl ⟨by rfl, ?_⟩) hHeld ?_ ?_
        rotate_left
        · intro w' hSw
          (try dsimp only at hSw)
          go_simp
          with_reducible rfl
        rotate_left
        · simp only [Act.put, List.setIfInBounds_toArray, List.set_cons_zero, List.set_cons_succ]; rfl
        refine take_ (i := 14) (N := some 31) (v := ?_) (a' := ?_) #[true, true, true, true, true, true, true, true, true, true, true, true, true, true, true, false, false, false, false, false] rfl rfl (by kernel_rfl) (fun _ _ _ h => h) (Or.inl ⟨by rfl, ?_⟩) hHeld ?_ ?_
        rotate_left
        · intro w' hSw
          (try dsimp only at hSw)
          go_simp
          with_reducible rfl
        rotate_left
        · simp only [Act.put, List.setIfInBounds_toArray, List.set_cons_zero, List.set_cons_succ]; rfl
        refine pure_ (i := 15) (N := some 32) (v := ?_) (a' := ?_) #[true, true, true, true, true, true, true, true, true, true, true, true, true, true, true, true, false, false, false, false] rfl rfl (by kernel_rfl) (fun _ _ _ h => h) (Or.inl ⟨by rfl, ?_⟩) ?_ ?_
        rotate_left
        · intro w'
          go_simp
          with_reducible rfl
        rotate_left
        · simp only [Act.put, List.setIfInBounds_toArray, List.set_cons_zero, List.set_cons_succ]; rfl
        refine one_ (i := 16) (N := some 33) #[true, true, true, true, true, true, true, true, true, true, true, true, true, true, true, true, true, false, false, false] rfl rfl (by kernel_rfl) (by decide) (fun K hK => ?_)
        refine value_ (w1 := ?_) (v := ?_) (by rfl) rfl ?_ ?_
        rotate_left 2
        · go_simp
          constructor
          · rfl
          · rfl
        refine hK.out _ _ ⟨(blk_cell (Aside0.mk (blk_alloc C4.out _)).out 0).trans rfl, cell2 (Aside0.mk (blk_alloc C5.out _)).out hp0.out hq0.out, cell2 (Aside0.mk (blk_alloc C5.out _)).out hp2.out hq2.out, cell2 (Aside0.mk (blk_alloc C5.out _)).out hp3.out hq3.out⟩ (fun hHeld => ?_)
        clear hK K
        refine norm_ (a' := ?_) ?_ ?_
        rotate_left
        · show Act.put _ (some 33) _ = _
          simp only [Act.put, List.setIfInBounds_toArray, List.set_cons_zero, List.set_cons_succ]
          rfl
        refine one_ (i := 17) (N := some 34) #[true, true, true, true, true, true, true, true, true, true, true, true, true, true, true, true, true, true, false, false] rfl rfl (by kernel_rfl) (by decide) (fun K hK => ?_)
        refine Kd.R_append_step k40 (w0 := w) w.heap.size (by rfl) (.tmp 18) (.tmp 33) 27 40 (.agg #[(.float .f32 0), (.float .f32 0), (.float .f32 0)]) 12 rfl Try.underlying27 info40 rfl (by decide) (by omega) u ((List.range i).map (boxP s)) ⟨pickF s b0, pickF s b2, pickF s b3⟩ [.float .f32 (pickF s b0), .float .f32 (pickF s b2), .float .f32 (pickF s b3)] (fun k => k ≠ w.heap.size ∧ k ≠ w.heap.size + 1) (fun _ => False) rfl rfl (k40_mkM _ _ _ _) (fun _ hk => hk.elim) (fun k hk => ⟨by have := below_size CB.out; have := blk_lt C4.out; omega, by have := blk_lt C4.out; omega⟩) CO.out CB.out (below_size CB.out) (by rw [List.length_map, List.length_range]; omega) ?_
        intro v1 w16 ho hb hg hat
        obtain ⟨Av, cv, rfl⟩ := Kd.R_slice ho
        have D2 := Lib.hid (blk_grown C2.out hg (Kd.R_ne CO.out C2.out (by decide)))
        have D4 := Lib.hid (blk_grown C4.out hg (Kd.R_ne CO.out C4.out (by decide)))
        have D5 := Lib.hid (blk_grown C5.out hg (Kd.R_ne CO.out C5.out (by decide)))
        have hxs : (List.range (i + 1)).map (boxP s) = (List.range i).map (boxP s) ++ [⟨pickF s b0, pickF s b2, pickF s b3⟩] := by rw [List.range_succ, List.map_append, List.map_singleton, HBOX.out]
        rw [← hxs, List.length_map, List.length_range] at ho
        clear hxs
        have DO := Lib.hid ho
        have DB := Lib.hid hb
        clear ho hb hg hat C2 C4 C5 CO CB
        refine hK.out _ _ ⟨(blk_cell D4.out 0).trans rfl, cell2 D5.out hp0.out hq0.out, cell2 D5.out hp2.out hq2.out, cell2 D5.out hp3.out hq3.out⟩ (fun hHeld => ?_)
        clear hK K
        refine norm_ (a' := ?_) ?_ ?_
        rotate_left
        · show Act.put _ (some 34) _ = _
          simp only [Act.put, List.setIfInBounds_toArray, List.set_cons_zero, List.set_cons_succ]
          rfl
        refine pure_ (i := 18) (N := some 35) (v := ?_) (a' := ?_) #[true, true, true, true, true, true, true, true, true, true, true, true, true, true, true, true, true, true, true, false] rfl rfl (by kernel_rfl) (fun _ _ _ h => h) (Or.inl ⟨by rfl, ?_⟩) ?_ ?_
        rotate_left
        · intro w'
          go_simp
          with_reducible rfl
        rotate_left
        · simp only [Act.put, List.setIfInBounds_toArray, List.set_cons_zero, List.set_cons_succ]; rfl
        refine last_ (i := 19) (N := none) #[true, true, true, true, true, true, true, true, true, true, true, true, true, true, true, true, true, true, true, true] rfl rfl (by kernel_rfl) (by decide) (fun K hK => ?_)
        have hs28 : w16.cell? ⟨w.heap.size + 1, 0, none⟩ = some u := (blk_cell D4.out 0).trans rfl
        have hfs28 := blk_frozen D4.out 0
        refine skip_ (w1 := ?_) (by rfl) rfl ?_ ?_
        rotate_left
        · go_simp
          rfl
        refine hK.out _ _ ?_
        clear hK K
        refine done_ (by kernel_rfl) ?_
        go_wp2_with fail
        exact ⟨⟨i + 1, .slice Av (i + 1) cv, hlt, by simp, Lib.hid (below_set DB.out (by omega)), Lib.hid (blk_far D2.out (by show w.heap.size ≠ w.heap.size + 1; omega) _), Lib.hid (blk_put D4.out 0 _ rfl), Lib.hid (blk_far D5.out (by show w.heap.size + 1 + 1 ≠ w.heap.size + 1; omega) _), Lib.hid (Kd.R_far (p := ⟨w.heap.size + 1, 0, none⟩) DO.out (fun _ hk => hk.2) _)⟩, by simp [intOf]; omega⟩
      · obtain rfl : i = 8 := by omega
        clear B5
        have hP8 : ((List.range 8).map (boxP s)).length = 8 := by simp
        go_wp2_with (first
          | ((with_reducible refine gate_dst (N := 37) rfl ?_); refine Kd.R_lit (Kd.int .i64) _ 2 ?hg (N := 37) ?hd (xs := boxL) (inner := [.int .i64 0, .int .i64 2, .int .i64 3, .int .i64 0, .int .i64 3, .int .i64 1, .int .i64 4, .int .i64 5, .int .i64 7, .int .i64 4, .int .i64 7, .int .i64 6, .int .i64 0, .int .i64 1, .int .i64 5, .int .i64 0, .int .i64 5, .int .i64 4, .int .i64 2, .int .i64 6, .int .i64 7, .int .i64 2, .int .i64 7, .int .i64 3, .int .i64 0, .int .i64 4, .int .i64 6, .int .i64 0, .int .i64 6, .int .i64 2, .int .i64 1, .int .i64 3, .int .i64 7, .int .i64 1, .int .i64 7, .int .i64 5]) (ok := fun _ => True) (okp := fun _ => True) ?hr ?hp (fun _ hk => hk) trivial (Below.refl _ _) (Nat.le_refl _) (by decide) ?_; (case hd => rfl); (case hg => rfl); (case hr => first | (go_simp; done) | (go_simp; rfl)); (case hp => exact (Reps.one (show Kd.M (Kd.int .i64) _ _ _ 0 [.int .i64 0] from rfl) (Reps.one (show Kd.M (Kd.int .i64) _ _ _ 2 [.int .i64 2] from rfl) (Reps.one (show Kd.M (Kd.int .i64) _ _ _ 3 [.int .i64 3] from rfl) (Reps.one (show Kd.M (Kd.int .i64) _ _ _ 0 [.int .i64 0] from rfl) (Reps.one (show Kd.M (Kd.int .i64) _ _ _ 3 [.int .i64 3] from rfl) (Reps.one (show Kd.M (Kd.int .i64) _ _ _ 1 [.int .i64 1] from rfl) (Reps.one (show Kd.M (Kd.int .i64) _ _ _ 4 [.int .i64 4] from rfl) (Reps.one (show Kd.M (Kd.int .i64) _ _ _ 5 [.int .i64 5] from rfl) (Reps.one (show Kd.M (Kd.int .i64) _ _ _ 7 [.int .i64 7] from rfl) (Reps.one (show Kd.M (Kd.int .i64) _ _ _ 4 [.int .i64 4] from rfl) (Reps.one (show Kd.M (Kd.int .i64) _ _ _ 7 [.int .i64 7] from rfl) (Reps.one (show Kd.M (Kd.int .i64) _ _ _ 6 [.int .i64 6] from rfl) (Reps.one (show Kd.M (Kd.int .i64) _ _ _ 0 [.int .i64 0] from rfl) (Reps.one (show Kd.M (Kd.int .i64) _ _ _ 1 [.int .i64 1] from rfl) (Reps.one (show Kd.M (Kd.int .i64) _ _ _ 5 [.int .i64 5] from rfl) (Reps.one (show Kd.M (Kd.int .i64) _ _ _ 0 [.int .i64 0] from rfl) (Reps.one (show Kd.M (Kd.int .i64) _ _ _ 5 [.int .i64 5] from rfl) (Reps.one (show Kd.M (Kd.int .i64) _ _ _ 4 [.int .i64 4] from rfl) (Reps.one (show Kd.M (Kd.int .i64) _ _ _ 2 [.int .i64 2] from rfl) (Reps.one (show Kd.M (Kd.int .i64) _ _ _ 6 [.int .i64 6] from rfl) (Reps.one (show Kd.M (Kd.int .i64) _ _ _ 7 [.int .i64 7] from rfl) (Reps.one (show Kd.M (Kd.int .i64) _ _ _ 2 [.int .i64 2] from rfl) (Reps.one (show Kd.M (Kd.int .i64) _ _ _ 7 [.int .i64 7] from rfl) (Reps.one (show Kd.M (Kd.int .i64) _ _ _ 3 [.int .i64 3] from rfl) (Reps.one (show Kd.M (Kd.int .i64) _ _ _ 0 [.int .i64 0] from rfl) (Reps.one (show Kd.M (Kd.int .i64) _ _ _ 4 [.int .i64 4] from rfl) (Reps.one (show Kd.M (Kd.int .i64) _ _ _ 6 [.int .i64 6] from rfl) (Reps.one (show Kd.M (Kd.int .i64) _ _ _ 0 [.int .i64 0] from rfl) (Reps.one (show Kd.M (Kd.int .i64) _ _ _ 6 [.int .i64 6] from rfl) (Reps.one (show Kd.M (Kd.int .i64) _ _ _ 2 [.int .i64 2] from rfl) (Reps.one (show Kd.M (Kd.int .i64) _ _ _ 1 [.int .i64 1] from rfl) (Reps.one (show Kd.M (Kd.int .i64) _ _ _ 3 [.int .i64 3] from rfl) (Reps.one (show Kd.M (Kd.int .i64) _ _ _ 7 [.int .i64 7] from rfl) (Reps.one (show Kd.M (Kd.int .i64) _ _ _ 1 [.int .i64 1] from rfl) (Reps.one (show Kd.M (Kd.int .i64) _ _ _ 7 [.int .i64 7] from rfl) (Reps.one (show Kd.M (Kd.int .i64) _ _ _ 5 [.int .i64 5] from rfl) (Reps.none _ _)))))))))))))))))))))))))))))))))))))); intro v2 w2 ho hb hg_ hnew_; clear hg_ hnew_; obtain ⟨Al, cl, rfl⟩ := Kd.R_slice ho; obtain ⟨_, hcl, hrl⟩ := Kd.R_reads' ho; have HCL := Lib.hid hcl; have HRL := Lib.hid hrl; have C2 := Lib.hid (blk_below B2.out hb); have C4 := Lib.hid (blk_below B4.out hb); have CO := Lib.hid (Kd.R_below HO.out hb); have CB := Lib.hid (below_then HB.out hb HB.out.size); clear hb ho hcl hrl HB B2 B4 HO)
          | (go_at_call 52; refine (impl_trianglesFrom.calls 40 Al cl boxL boxT w2 HRL.out HCL.out boxL_f).mono ?_; rintro E w3 ⟨vT, rfl, hS, hb⟩; obtain ⟨At, ct, rfl⟩ := Kd.S_slice hS; obtain ⟨Au, cu, eu⟩ := Kd.R_slice CO.out; rw [hP8] at eu; subst eu; have D2 := blk_below C2.out hb; have D4 := blk_below C4.out hb; have DO := Lib.hid (Kd.R_below CO.out hb); have DB := Lib.hid (below_then CB.out hb CB.out.size); have DS := Lib.hid (S_in hS)
             have hl4 := blk_lt C4.out; have z2 := hb.size
             have G2 := blk_far D2 (p := ⟨w.heap.size + 1, 1, none⟩) (by show w.heap.size ≠ w.heap.size + 1; omega) (.slice At boxT.length ct)
             have G4 := blk_put D4 1 (.slice At boxT.length ct) rfl
             have f40 := (blk_cell D4 0).trans rfl; have f41 := (blk_cell D4 1).trans rfl; have q40 := blk_frozen D4 0; have q41 := blk_frozen D4 1
             have g40 := (blk_cell G4 0).trans rfl; have g41 := (blk_cell G4 1).trans rfl
             have g20 := (blk_cell G2 0).trans rfl; have g21 := (blk_cell G2 1).trans rfl; have q20 := blk_frozen G2 0; have q21 := blk_frozen G2 1
             clear hS hb)
          | fail)
        ((try simp only [Exit.inBlock, Exit.then]); refine bodyPost_ret (by simp [results, Try.results24, go_sem, g20, g21, setCell_same_of, World.cell?_setCell_other]; try rfl) rfl ?_)
        have hB8 : (boxPs s).length = 8 := hP8
        have hk : Kept w3 (((w3.setCell ⟨w.heap.size + 1, 1, none⟩ (.slice At boxT.length ct)).setCell ⟨w.heap.size, 0, none⟩ (.slice Au 8 cu)).setCell ⟨w.heap.size, 1, none⟩ (.slice At boxT.length ct)) (fun k => k = w.heap.size ∨ k = w.heap.size + 1) := (((Kept.refl _ _).setCell (.inl (.inr rfl)) _).setCell (.inl (.inl rfl)) _).setCell (.inl (.inl rfl)) _
        refine ⟨Au, cu, At, ct, by rw [hB8], ⟨?_, ?_⟩, below_set (below_set (below_set DB.out (by omega)) (Nat.le_refl _)) (Nat.le_refl _)⟩
        · rw [hB8]
          exact R_in (Kd.R_far (p := ⟨w.heap.size, 1, none⟩) (Kd.R_far (p := ⟨w.heap.size, 0, none⟩) (Kd.R_far (p := ⟨w.heap.size + 1, 1, none⟩) DO.out (fun _ hk => hk.2) _) (fun _ hk => hk.1) _) (fun _ hk => hk.1) _)
        · exact S_in (Kd.S_lower (Kd.S_kept DS.out hk (fun k hi => by unfold In at hi; omega)) (by omega))
  · have hs' := Bool.eq_false_iff.2 hs
    have hr : boxR s = ([], [], false) := by unfold boxR; rw [if_neg hs]
    rw [hr]
    have HS := Lib.hid hs'
    clear hs hs' hr
    go_enter Try.func24, Try.ntmps24
    go_wp2_with (first | (go_at_call 51; refine (G8.impl_isOver _ _).mono ?_; rw [HS.out]; rintro e w1 ⟨rfl, n, rfl⟩) | fail)
    ((try simp only [Exit.inBlock, Exit.then]); refine bodyPost_ret (by simp [results, Try.results24, go_sem, setCell_same_of, World.cell?_setCell_other]; try rfl) rfl ?_)
    refine ⟨none, 0, none, 0, rfl, ⟨Kd.R_nil _ _ _ _ _, Kd.S_nil _ _ _ _ _⟩, ?_⟩
    (repeat (first | exact Below.refl _ _ | assumption | (refine Below.drewN ?_ _) | (refine Below.setCell ?_ (by first | (simp; done) | (simp; omega)) _) | (refine Below.drew ?_) | (refine Below.alloc ?_ (by first | (simp; done) | (simp; omega)) _)))

end Go.Proofs.Ytlendjpmblapkab
namespace Go.Proofs.Ytlendjpmblapkab
open Fl Go.RowKit Go.Proofs.YtlendjpmblapkabW.PrintWords Go.Proofs.YtlendjpmblapkabW.PrintLast Go.Proofs.YtlendjpmblapkabW.PrintMore Go.Proofs.Ytlendjpmblapkab.PMesh Msh
set_option linter.unusedVariables false

/-- A triangle turned over. -/
def turn3 : List Int → List Int
  | [a, b, c] => [a, c, b]
  | t => t
/-- The first j triangles turned over. -/
def turnP (T : List (List Int)) (j : Nat) : List (List Int) := (T.take j).map turn3 ++ T.drop j
theorem turnP_zero (T : List (List Int)) : turnP T 0 = T := by simp [turnP]
theorem turnP_all (T : List (List Int)) : turnP T T.length = T.map turn3 := by simp [turnP]
theorem turnP_len (T : List (List Int)) (j : Nat) (h : j ≤ T.length) : (turnP T j).length = T.length := by simp [turnP]; omega
theorem turnP_get (T : List (List Int)) (j : Nat) (h : j < T.length) : (turnP T j).getD j [] = T[j] := by
  have hl : ((T.take j).map turn3).length = j := by simp; omega
  unfold turnP
  rw [List.getD_eq_getElem?_getD, List.getElem?_append_right (by omega), hl, Nat.sub_self, List.getElem?_drop, Nat.add_zero, List.getElem?_eq_getElem h]; rfl
theorem turnP_set (T : List (List Int)) (j : Nat) (h : j < T.length) : (turnP T j).set j (turn3 T[j]) = turnP T (j + 1) := by
  have hl : ((T.take j).map turn3).length = j := by simp; omega
  have e2 : T.drop j = T[j] :: T.drop (j + 1) := List.drop_eq_getElem_cons h
  unfold turnP
  rw [List.take_succ_eq_append_getElem h, List.map_append, e2, List.set_append, if_neg (by omega), hl, Nat.sub_self, List.set_cons_zero, List.append_assoc]
  rfl

theorem copy_loop (Q : List S40) (T : List (List Int)) (hT : T.length ≤ 1048576) (hr : ∀ t ∈ T, t.length ≤ 1048576) (d : Nat) : ∀ (k i : Nat), i ≤ T.length → T.length - i = d → d < k → impl_copyMesh.l0 k T (T.length : Int) (i : Int) Q (T.take i) = some (Q, T) := by
  induction d with
  | zero =>
    intro k i hi hd hk
    obtain ⟨k, rfl⟩ : ∃ j, k = j + 1 := ⟨k - 1, by omega⟩
    obtain rfl : i = T.length := by omega
    simp only [impl_copyMesh.l0]
    rw [if_neg (by omega), List.take_length]
  | succ d ih =>
    intro k i hi hd hk
    obtain ⟨k, rfl⟩ : ∃ j, k = j + 1 := ⟨k - 1, by omega⟩
    have hil : i < T.length := by omega
    have h3 := hr T[i] (List.getElem_mem hil)
    have e := ih k (i + 1) (by omega) (by omega) (by omega)
    rw [List.take_succ_eq_append_getElem hil] at e
    simp only [impl_copyMesh.l0, Option.bind_some, List.nil_append, List.length_nil]
    rw [if_pos (by omega), if_pos (by omega), if_pos (by omega), rdL T i hil, if_pos (by omega), if_pos (by rw [List.length_take]; omega), up i (by omega)]
    exact e
theorem copy_f (Q : List S40) (T : List (List Int)) (hQ : Q.length ≤ 1048576) (hT : T.length ≤ 1048576) (hr : ∀ t ∈ T, t.length ≤ 1048576) : impl_copyMesh.f 1048578 Q T = some (Q, T) := by
  unfold impl_copyMesh.f
  simp only [Option.bind_some, List.nil_append, List.length_nil]
  rw [if_pos (by omega)]
  exact copy_loop Q T hT hr T.length 1048578 0 (by omega) (by omega) (by omega)

/-- What TurnMesh answers. -/
def turnR (Q : List S40) (T : List (List Int)) : List S40 × List (List Int) × Bool := if validB Q.length T = true then (Q, T.map turn3, true) else ([], [], false)

theorem valid_rows {n : Nat} {T : List (List Int)} (hv : validB n T = true) : n ≤ 64 ∧ T.length ≤ 128 ∧ ∀ t ∈ T, t.length = 3 := by
  simp only [validB, Bool.and_eq_true, decide_eq_true_eq] at hv
  exact ⟨hv.1.1, hv.1.2, fun t ht => triB_len (List.all_eq_true.1 hv.2 t ht)⟩

theorem kept_two {w : World} {g : Nat} (u v : Value) : Kept w ((w.setCell ⟨g, 0, none⟩ u).setCell ⟨g, 1, none⟩ v) (fun k => k = g) := by
  have h1 : Kept w (w.setCell ⟨g, 0, none⟩ u) (fun k => k = g) := Kept.setCell (p := ⟨g, 0, none⟩) (Kept.refl w (fun k => k = g)) (Or.inl rfl) u
  exact Kept.setCell (p := ⟨g, 1, none⟩) h1 (Or.inl rfl) v

set_option maxHeartbeats 4000000 in
set_option maxRecDepth 100000 in
theorem impl_TurnMesh (A : Option Addr) (c : Nat) (Q : List S40) (B : Option Addr) (e : Nat) (T : List (List Int)) (w : World) (hQ : Kd.C k40 w A Q.length Q) (hq : Q.length ≤ c) (hT : Kd.C (Kd.slice 2 (Kd.int .i64)) w B T.length T) (hqt : T.length ≤ e) :
    Calls Try.prog 12 #[.agg #[.slice A Q.length c, .slice B T.length e]] w (AnsM w (turnR Q T).1 (turnR Q T).2.1 (turnR Q T).2.2) := by
  obtain ⟨M1, hM⟩ : ∃ M, M = w.alloc (.cells #[.slice A Q.length c, .slice B T.length e] 29) := ⟨_, rfl⟩
  obtain ⟨W0, hW0⟩ : ∃ W0, W0 = M1.alloc (.cells #[.slice none 0 0, .slice none 0 0] 29) := ⟨_, rfl⟩
  have hms : M1.heap.size = w.heap.size + 1 := by rw [hM]; simp
  have hb0 : Below w.heap.size w W0 := by rw [hW0, hM]; exact below_alloc (below_alloc (Below.refl _ _) _) _
  have hbx : BoxAt W0 w.heap.size 29 (.slice A Q.length c) (.slice B T.length e) := by
    have := BoxAt.new w 29 (.slice A Q.length c) (.slice B T.length e)
    rw [← hM] at this
    rw [hW0]
    exact this.below (below_alloc (Below.refl _ _) _)
  have hf0 : BoxAt W0 (w.heap.size + 1) 29 (.slice none 0 0) (.slice none 0 0) := by have := BoxAt.new M1 29 (.slice none 0 0) (.slice none 0 0); rwa [hms, ← hW0] at this
  have HX0 := Lib.hid hbx
  have HB0 := Lib.hid hb0
  have F0 := Lib.hid hf0
  have hc0 := hbx.c0
  have hc1 := hbx.c1
  have HV := Lib.hid (fun (W : World) (h : Below w.heap.size w W) => impl_ValidMesh.calls 2097156 A c Q B e T _ W (Kd.C_below hQ h) hq (Kd.C_below hT h) hqt (valid_f Q T _ (by omega)))
  rw [hW0, hM] at hc0 hc1 HX0 HB0 F0
  by_cases hv : validB Q.length T = true
  · obtain ⟨v1, v2, v3⟩ := valid_rows hv
    have hr : turnR Q T = (Q, T.map turn3, true) := by unfold turnR; rw [if_pos hv]
    rw [hr]
    rw [hv] at HV
    have HC := Lib.hid (fun (W : World) (h : Below w.heap.size w W) => impl_copyMesh.calls 1048578 A c Q B e T Q T W (Kd.C_below hQ h) hq (Kd.C_below hT h) hqt (copy_f Q T (by omega) (by omega) (fun t ht => by have := v3 t ht; omega)))
    have H3 := Lib.hid v3
    clear hr hv hQ hT hq hqt hms hbx hf0 hb0 hW0 hM v3
    go_enter Try.func12, Try.ntmps12
    go_wp2_with (first
      | (go_at_call 33; refine (HV.out _ HB0.out).mono ?_; rintro E w1 ⟨rfl, hb⟩; have B1 := Lib.hid (below_then HB0.out hb HB0.out.size); have F1 := Lib.hid (F0.out.below hb); have hx1 := HX0.out.below hb; have hd0 := hx1.c0; have hd1 := hx1.c1; clear hb hc0 hc1)
      | (go_at_call 34; refine (HC.out _ B1.out).mono ?_; rintro E w3 ⟨v0, v1, rfl, hR, hS, hb⟩; obtain ⟨Aq, cq, rfl⟩ := Kd.R_slice hR; obtain ⟨At, ct, rfl⟩ := Kd.S_slice hS; have B3 := Lib.hid (below_then B1.out hb B1.out.size); have F3 := Lib.hid (F1.out.below hb); have O3 := Lib.hid (Kd.R_lower hR B1.out.size); have T3 := Lib.hid (Kd.S_lower hS B1.out.size); clear hR hS hb hd0 hd1 hx1)
      | fail)
    have hge : w.heap.size + 1 < w3.heap.size := F3.out.lt
    obtain ⟨w5, hw5⟩ : ∃ W, W = w3.alloc (.cells #[.slice Aq Q.length cq, .slice At T.length ct] 29) := ⟨_, rfl⟩
    have b5 : Below w.heap.size w w5 := by rw [hw5]; exact below_alloc B3.out _
    have c25 : BoxAt w5 (w.heap.size + 1) 29 (.slice none 0 0) (.slice none 0 0) := by rw [hw5]; exact F3.out.below (below_alloc (Below.refl _ _) _)
    have c35 : BoxAt w5 w3.heap.size 29 (.slice Aq Q.length cq) (.slice At T.length ct) := by rw [hw5]; exact BoxAt.new w3 29 _ _
    have o5 : Kd.R k40 40 w5 w.heap.size (fun _ => True) (.slice Aq Q.length cq) Q := by rw [hw5]; exact Kd.R_alloc O3.out _
    have t5 : Kd.S (Kd.slice 2 (Kd.int .i64)) 56 w5 w.heap.size (fun _ => True) (.slice At T.length ct) (turnP T 0) := by rw [hw5, turnP_zero]; exact Kd.S_alloc T3.out _
    rw [← hw5]
    clear hw5 B3 O3 T3 F3 B1 F1 HX0 HB0 F0 HV HC
    generalize w3.heap.size = g3 at *
    go_loopw [16] (fun k wr => ∃ (i : Nat), i ≤ T.length ∧ k = .int .i64 (i : Int) ∧ Hid (Below w.heap.size w wr) ∧ Hid (BoxAt wr (w.heap.size + 1) 29 (.slice none 0 0) (.slice none 0 0)) ∧ Hid (BoxAt wr g3 29 (.slice Aq Q.length cq) (.slice At T.length ct)) ∧ Hid (Kd.R k40 40 wr w.heap.size (fun _ => True) (.slice Aq Q.length cq) Q) ∧ Hid (Kd.S (Kd.slice 2 (Kd.int .i64)) 56 wr w.heap.size (fun _ => True) (.slice At T.length ct) (turnP T i))) (fun k _ => T.length - (intOf k).toNat)
    case atStart => exact ⟨0, Nat.zero_le _, rfl, Lib.hid b5, Lib.hid c25, Lib.hid c35, Lib.hid o5, Lib.hid t5⟩
    case round =>
      clear b5 c25 c35 o5 t5
      obtain ⟨i, hi, rfl, HB, C2, C3, CQ, CT⟩ := hrel
      by_cases hlt : i < T.length
      · have b1 : (i : Int) < (T.length : Int) := by omega
        have b2 : (0 : Int) ≤ (i : Int) := by omega
        have b3 : (i : Int) < 9223372036854775807 := by omega
        obtain ⟨gr, cr, er, _, _, _⟩ := Kd.S_form CT.out (by rw [turnP_len T i hi]; omega)
        obtain ⟨rfl, rfl⟩ : At = some ⟨gr, 0, none⟩ ∧ ct = cr := by injection er with h1 _ h3; exact ⟨h1, h3⟩
        obtain ⟨oki, cs, hcl, hM, hcc, hoki, hbk⟩ := Kd.S_borrow (Kd.S_drew CT.out) [] (i : Int) b2 (by omega)
        rw [Int.toNat_natCast, turnP_get T i hlt] at hM
        rw [Int.toNat_natCast] at hcc hbk
        obtain ⟨vi, rfl, hR⟩ := hM
        obtain ⟨Ai, ci, rfl⟩ := Kd.R_slice hR
        have hcell := hcc 0 _ rfl
        rw [show (Kd.slice 2 (Kd.int .i64)).sz = 1 from rfl, Nat.mul_one, Nat.add_zero, add_at, Nat.zero_add] at hcell
        have h3 := H3.out T[i] (List.getElem_mem hlt)
        have hset := turnP_set T i hlt
        generalize T[i] = t at *
        obtain ⟨x, y, z, rfl⟩ := tri3 h3
        have hcell2 : wr.cell? ⟨gr, i, none⟩ = some (.slice Ai 3 ci) := hcell
        have HBK := Lib.hid (fun (w1 : World) (row : Option Nat) (x' : List Int) (a : wr.drew.grownBy w1 row) (b : ∀ k, row = some k → oki k) (c : Kd.M (Kd.slice 2 (Kd.int .i64)) w1 w.heap.size oki x' [.slice Ai 3 ci]) => hbk (w1 := w1) (row := row) (x' := x') a b c)
        have HOK := Lib.hid hoki
        have HSET := Lib.hid hset
        have HR := Lib.hid hR
        have D2 := Lib.hid (blk_drew C2.out)
        have D3 := Lib.hid (blk_drew C3.out)
        have DQ := Lib.hid (Kd.R_drew CQ.out)
        have DB := Lib.hid (Below.drew HB.out)
        have hd1 := C3.out.c1
        clear hbk hoki hset hcell hcc er hcl
        go_wp2_with fail
        clear hcell2 hd1
        have hO := Kd.own_of_R HR.out
        obtain ⟨gi, ci', ei, hgb, _⟩ := World.ownsRow.form hO (by simp)
        obtain ⟨rfl, rfl⟩ : Ai = some ⟨gi, 0, none⟩ ∧ ci = ci' := by injection ei with h1 _ h3; exact ⟨h1, h3⟩
        have cy : wr.drew.cell? ⟨gi, 1, none⟩ = some (.int .i64 y) := (own_at_of (d := (0 : Int)) hO 1 (by simp) (by simp)).1
        have fy : wr.drew.frozen? ⟨gi, 1, none⟩ = false := (own_at_of (d := (0 : Int)) hO 1 (by simp) (by simp)).2
        have cz : wr.drew.cell? ⟨gi, 2, none⟩ = some (.int .i64 z) := (own_at_of (d := (0 : Int)) hO 2 (by simp) (by simp)).1
        have h1 := own_store_of (enc := Value.int .i64) hO 1 z
        have hO1 : (wr.drew.setCell ⟨gi, 1, none⟩ (.int .i64 z)).ownsRow w.heap.size 2 1 (.slice (some ⟨gi, 0, none⟩) 3 ci) 3 (encs (Value.int .i64) [x, z, z]) := h1.1
        have hg1 : wr.drew.grownBy (wr.drew.setCell ⟨gi, 1, none⟩ (.int .i64 z)) (some gi) := h1.2
        have cz2 : (wr.drew.setCell ⟨gi, 1, none⟩ (.int .i64 z)).cell? ⟨gi, 2, none⟩ = some (.int .i64 z) := (own_at_of (d := (0 : Int)) hO1 2 (by simp) (by simp)).1
        have fz2 : (wr.drew.setCell ⟨gi, 1, none⟩ (.int .i64 z)).frozen? ⟨gi, 2, none⟩ = false := (own_at_of (d := (0 : Int)) hO1 2 (by simp) (by simp)).2
        have h2 := own_store_of (enc := Value.int .i64) hO1 2 y
        have hO2 : ((wr.drew.setCell ⟨gi, 1, none⟩ (.int .i64 z)).setCell ⟨gi, 2, none⟩ (.int .i64 y)).ownsRow w.heap.size 2 1 (.slice (some ⟨gi, 0, none⟩) 3 ci) 3 (encs (Value.int .i64) [x, z, y]) := h2.1
        have hg2 : (wr.drew.setCell ⟨gi, 1, none⟩ (.int .i64 z)).grownBy ((wr.drew.setCell ⟨gi, 1, none⟩ (.int .i64 z)).setCell ⟨gi, 2, none⟩ (.int .i64 y)) (some gi) := h2.2
        have hg : wr.drew.grownBy ((wr.drew.setCell ⟨gi, 1, none⟩ (.int .i64 z)).setCell ⟨gi, 2, none⟩ (.int .i64 y)) (some gi) := World.grownBy.trans hg1 hg2
        have hin : ∀ k, (Value.slice (some ⟨gi, 0, none⟩) 3 ci).ownBlock = some k → oki k := fun k hk => HR.out.1 k hk
        have E2 := Lib.hid (blk_grown D2.out hg (Kd.R_ne HR.out D2.out (by decide)))
        have E3 := Lib.hid (blk_grown D3.out hg (Kd.R_ne HR.out D3.out (by decide)))
        have EQ := Lib.hid (Kd.R_over' DQ.out (Kd.R_typed HR.out) (by decide) hg)
        have et := HBK.out _ _ [x, z, y] hg hin ⟨_, rfl, Kd.R_of_own hO2 hin⟩
        rw [show [x, z, y] = turn3 [x, y, z] from rfl, HSET.out] at et
        have ET := Lib.hid et
        have EB := Lib.hid (below_set (j := 2) (v := .int .i64 y) (below_set (j := 1) (v := .int .i64 z) DB.out hgb) hgb)
        have cy1 := Lib.hid cy; have fy1 := Lib.hid fy; have cz1 := Lib.hid cz2; have fz1 := Lib.hid fz2
        refine start_ (n := 12) (S := fun w' => w'.cell? ⟨gi, 1, none⟩ = some (.int .i64 y) ∧ w'.cell? ⟨gi, 2, none⟩ = some (.int .i64 z)) (ds := [9, 11]) #[false, false, false, false, false, false, false, false, false, false, false, false] (by kernel_rfl) rfl rfl ⟨cy, cz⟩ (fun hHeld => ?_)
        clear cy fy cz cz2 fz2 hO hO1 hO2 h1 h2 hg1 hg2 hg et hin HBK HR D2 D3 DQ DB HSET HOK hR
        generalize wr.drew = w13 at cy1 fy1 cz1 fz1 E2 E3 EQ ET EB hHeld ⊢
        clear HB C2 C3 CQ CT
        refine pure_ (i := 0) (N := some 20) (v := ?_) (a' := ?_) #[true, false, false, false, false, false, false, false, false, false, false, false] rfl rfl (by kernel_rfl) (fun _ _ _ h => h) (Or.inl ⟨by rfl, ?_⟩) ?_ ?_
        rotate_left
        · intro w'
          go_simp
          with_reducible rfl
        rotate_left
        · simp only [Act.put, List.setIfInBounds_toArray, List.set_cons_zero, List.set_cons_succ]; rfl
        refine pure_ (i := 1) (N := some 21) (v := ?_) (a' := ?_) #[true, true, false, false, false, false, false, false, false, false, false, false] rfl rfl (by kernel_rfl) (fun _ _ _ h => h) (Or.inl ⟨by rfl, ?_⟩) ?_ ?_
        rotate_left
        · intro w'
          go_simp
          with_reducible rfl
        rotate_left
        · simp only [Act.put, List.setIfInBounds_toArray, List.set_cons_zero, List.set_cons_succ]; rfl
        refine pure_ (i := 2) (N := some 22) (v := ?_) (a' := ?_) #[true, true, true, false, false, false, false, false, false, false, false, false] rfl rfl (by kernel_rfl) (fun _ _ _ h => h) (Or.inl ⟨by rfl, ?_⟩) ?_ ?_
        rotate_left
        · intro w'
          go_simp
          with_reducible rfl
        rotate_left
        · simp only [Act.put, List.setIfInBounds_toArray, List.set_cons_zero, List.set_cons_succ]; rfl
        refine pure_ (i := 5) (N := some 25) (v := ?_) (a' := ?_) #[true, true, true, false, false, true, false, false, false, false, false, false] rfl rfl (by kernel_rfl) (fun _ _ _ h => h) (Or.inl ⟨by rfl, ?_⟩) ?_ ?_
        rotate_left
        · intro w'
          go_simp
          with_reducible rfl
        rotate_left
        · simp only [Act.put, List.setIfInBounds_toArray, List.set_cons_zero, List.set_cons_succ]; rfl
        refine pure_ (i := 3) (N := some 23) (v := ?_) (a' := ?_) #[true, true, true, true, false, true, false, false, false, false, false, false] rfl rfl (by kernel_rfl) (fun _ _ _ h => h) (Or.inl ⟨by rfl, ?_⟩) ?_ ?_
        rotate_left
        · intro w'
          go_simp
          with_reducible rfl
        rotate_left
        · simp only [Act.put, List.setIfInBounds_toArray, List.set_cons_zero, List.set_cons_succ]; rfl
        refine pure_ (i := 6) (N := some 26) (v := ?_) (a' := ?_) #[true, true, true, true, false, true, true, false, false, false, false, false] rfl rfl (by kernel_rfl) (fun _ _ _ h => h) (Or.inl ⟨by rfl, ?_⟩) ?_ ?_
        rotate_left
        · intro w'
          go_simp
          with_reducible rfl
        rotate_left
        · simp only [Act.put, List.setIfInBounds_toArray, List.set_cons_zero, List.set_cons_succ]; rfl
        refine take_ (i := 4) (N := some 24) (v := ?_) (a' := ?_) #[true, true, true, true, true, true, true, false, false, false, false, false] rfl rfl (by kernel_rfl) (fun _ _ _ h => h) (Or.inl ⟨by rfl, ?_⟩) hHeld ?_ ?_
        rotate_left
        · intro w' hSw
          (try dsimp only at hSw)
          go_simp
          with_reducible rfl
        rotate_left
        · simp only [Act.put, List.setIfInBounds_toArray, List.set_cons_zero, List.set_cons_succ]; rfl
        refine take_ (i := 7) (N := some 27) (v := ?_) (a' := ?_) #[true, true, true, true, true, true, true, true, false, false, false, false] rfl rfl (by kernel_rfl) (fun _ _ _ h => h) (Or.inl ⟨by rfl, ?_⟩) hHeld ?_ ?_
        rotate_left
        · intro w' hSw
          (try dsimp only at hSw)
          go_simp
          with_reducible rfl
        rotate_left
        · simp only [Act.put, List.setIfInBounds_toArray, List.set_cons_zero, List.set_cons_succ]; rfl
        refine pure_ (i := 8) (N := some 28) (v := ?_) (a' := ?_) #[true, true, true, true, true, true, true, true, true, false, false, false] rfl rfl (by kernel_rfl) (fun _ _ _ h => h) (Or.inl ⟨by rfl, ?_⟩) ?_ ?_
        rotate_left
        · intro w'
          go_simp
          with_reducible rfl
        rotate_left
        · simp only [Act.put, List.setIfInBounds_toArray, List.set_cons_zero, List.set_cons_succ]; rfl
        refine last_ (i := 9) (N := none) #[true, true, true, true, true, true, true, true, true, true, false, false] rfl rfl (by kernel_rfl) (by decide) (fun K hK => ?_)
        have hs1 := cy1.out; have hf1 := fy1.out
        refine skip_ (w1 := ?_) (by rfl) rfl ?_ ?_
        rotate_left
        · go_simp
          rfl
        refine hK.out _ _ ?_
        clear hK K
        clear hs1 hf1
        refine pure_ (i := 10) (N := some 29) (v := ?_) (a' := ?_) #[true, true, true, true, true, true, true, true, true, true, true, false] rfl rfl (by kernel_rfl) (fun _ _ _ h => h) (Or.inl ⟨by rfl, ?_⟩) ?_ ?_
        rotate_left
        · intro w'
          go_simp
          with_reducible rfl
        rotate_left
        · simp only [Act.put, List.setIfInBounds_toArray, List.set_cons_zero, List.set_cons_succ]; rfl
        refine last_ (i := 11) (N := none) #[true, true, true, true, true, true, true, true, true, true, true, true] rfl rfl (by kernel_rfl) (by decide) (fun K hK => ?_)
        have hs2 := cz1.out; have hf2 := fz1.out
        refine skip_ (w1 := ?_) (by rfl) rfl ?_ ?_
        rotate_left
        · go_simp
          rfl
        refine hK.out _ _ ?_
        clear hK K
        clear hs2 hf2
        refine done_ (by kernel_rfl) ?_
        go_wp2_with fail
        exact ⟨⟨i + 1, hlt, by simp, EB, E2, E3, EQ, ET⟩, by simp [intOf]; omega⟩
      · obtain rfl : i = T.length := by omega
        have hu := CT.out
        rw [turnP_all] at hu
        have hml : (T.map turn3).length = T.length := List.length_map _
        have f30 := C3.out.c0
        have f31 := C3.out.c1
        have f20 := C2.out.c0
        have f21 := C2.out.c1
        have q20 := blk_frozen C2.out 0
        have q21 := blk_frozen C2.out 1
        have HU := Lib.hid hu
        have HML := Lib.hid hml
        clear hu CT hml
        go_wp2_with fail
        ((try simp only [Exit.inBlock, Exit.then]); refine bodyPost_ret (by simp [results, Try.results12, go_sem, f20, f21, setCell_same_of, World.cell?_setCell_other]; try rfl) rfl ?_)
        have hk := kept_two (w := wr) (g := w.heap.size + 1) (.slice Aq Q.length cq) (.slice At T.length ct)
        refine ⟨Aq, cq, At, ct, by rw [HML.out], ⟨?_, ?_⟩, below_set (below_set HB.out (Nat.le_succ _)) (Nat.le_succ _)⟩
        · exact R_in (Kd.R_kept (Kd.R_types CQ.out C2.out (by decide)) hk (fun k hk => hk.2))
        · rw [HML.out]
          exact S_in (Kd.S_kept (Kd.S_types HU.out C2.out (by decide)) hk (fun k hk => hk.2))
  · have hv' := Bool.eq_false_iff.2 hv
    have hr : turnR Q T = ([], [], false) := by unfold turnR; rw [if_neg hv]
    rw [hr]
    rw [hv'] at HV
    clear hr hv hv' hQ hT hq hqt hms hbx hf0 hb0 hW0 hM
    go_enter Try.func12, Try.ntmps12
    go_wp2_with (first
      | (go_at_call 33; refine (HV.out _ HB0.out).mono ?_; rintro E w1 ⟨rfl, hb⟩; have B1 := Lib.hid (below_then HB0.out hb HB0.out.size); have hf1 := F0.out.below hb; have f0 := hf1.c0; have f1 := hf1.c1; have z0 := blk_frozen hf1 0; have z1 := blk_frozen hf1 1; clear hb hc0 hc1)
      | fail)
    ((try simp only [Exit.inBlock, Exit.then]); refine bodyPost_ret (by simp [results, Try.results12, go_sem, f0, f1, setCell_same_of, World.cell?_setCell_other]; try rfl) rfl ?_)
    exact ⟨none, 0, none, 0, rfl, ⟨Kd.R_nil _ _ _ _ _, Kd.S_nil _ _ _ _ _⟩, below_set (below_set B1.out (Nat.le_succ _)) (Nat.le_succ _)⟩

end Go.Proofs.Ytlendjpmblapkab
namespace Go.Proofs.Ytlendjpmblapkab
open Fl Go.RowKit Go.Proofs.YtlendjpmblapkabW.PrintWords Go.Proofs.Ytlendjpmblapkab.PMesh Msh
set_option linter.unusedVariables false

/-- A mesh that the reference has made: it is read alone. -/
def RefM (w : World) (a b : Nat) (vP vT : Value) (P : List S40) (T : List (List Int)) : Prop :=
  Kd.R k40 40 w a (In a b) vP P ∧ Kd.N (Kd.slice 2 (Kd.int .i64)) 56 w a (In a b) vT T
section
variable {w w' : World} {a b c d : Nat} {vP vT : Value} {P : List S40} {T : List (List Int)}
theorem RefM.below (h : RefM w a b vP vT P T) (hb : Below w.heap.size w w') : RefM w' a b vP vT P T := ⟨Kd.R_below h.1 hb, Kd.N_below h.2 hb⟩
theorem RefM.kept (h : RefM w a b vP vT P T) (hk : Kept w w' (In c d)) (ho : b ≤ c ∨ d ≤ a) : RefM w' a b vP vT P T := ⟨Kd.R_kept h.1 hk (In_off ho), Kd.N_kept h.2 hk (In_off ho)⟩
theorem RefM.C {A B : Option Addr} {n m e f : Nat} (h : RefM w a b (.slice A n e) (.slice B m f) P T) : Kd.C k40 w A P.length P ∧ P.length ≤ e ∧ Kd.C (Kd.slice 2 (Kd.int .i64)) w B T.length T ∧ T.length ≤ f := by
  obtain ⟨h1, h2, h3⟩ := Kd.R_reads' h.1
  obtain ⟨h4, h5, h6⟩ := Kd.N_reads' h.2
  exact ⟨h3, by omega, h6, by omega⟩
theorem N_in {α : Type} {d : Kd α} {e base : Nat} {w : World} {v : Value} {xs : List α} {ok : Nat → Prop} (h : Kd.N d e w base ok v xs) (hok : ∀ k, ok k → base ≤ k) : Kd.N d e w base (In base w.heap.size) v xs := Kd.N_mono (Kd.N_bound h) (fun k hk => ⟨hok k hk.1, hk.2⟩)
end
/-- What the reference's function with a mesh and a bool leaves. -/
def AnsR (w : World) (P : List S40) (T : List (List Int)) (b : Bool) (E : Ending) (w' : World) : Prop := ∃ A c B e, E = .returned (.tuple #[.agg #[.slice A P.length c, .slice B T.length e], .bool b]) ∧ RefM w' w.heap.size w'.heap.size (.slice A P.length c) (.slice B T.length e) P T ∧ Below w.heap.size w w'

theorem eqR_step (P P' : List S40) (T : List (List Int)) (hp : simP P P') (h1 : P.length ≤ 1048576) (h2 : T.length ≤ 1048576) (h3 : ∀ t ∈ T, t.length ≤ 1048576) (W : World) (A A' B B' : Option Addr) (c c' e e' a b a' b' : Nat)
    (x : OwnM W a b (.slice A P.length c) (.slice B T.length e) P T) (y : RefM W a' b' (.slice A' P'.length c') (.slice B' T.length e') P' T) :
    Calls Try.prog 13 #[.agg #[.slice A P.length c, .slice B T.length e], .agg #[.slice A' P'.length c', .slice B' T.length e']] W fun E w' => E = .returned (.bool true) ∧ Below W.heap.size W w' :=
  laws_eqMesh.calls 2097156 A c P B e T A' c' P' B' e' T true W x.C.1 x.C.2.1 x.C.2.2.1 x.C.2.2.2 y.C.1 y.C.2.1 y.C.2.2.1 y.C.2.2.2 (eqMesh_f P P' T hp h1 h2 h3 _ (by omega))

end Go.Proofs.Ytlendjpmblapkab
namespace Go.Proofs.Ytlendjpmblapkab
open Fl Go.RowKit Go.Proofs.YtlendjpmblapkabW.PrintWords Go.Proofs.Ytlendjpmblapkab.PMesh Msh
set_option linter.unusedVariables false

theorem turn_loop (Q : List S40) (T : List (List Int)) (hT : T.length ≤ 128) (hr : ∀ t ∈ T, t.length = 3) (d : Nat) : ∀ (k i : Nat), i ≤ T.length → T.length - i = d → d < k → spec_TurnMesh.l0 k (i : Int) Q T Q (turnP T i) = some (Q, T.map turn3, true) := by
  induction d with
  | zero =>
    intro k i hi hd hk
    obtain ⟨k, rfl⟩ : ∃ j, k = j + 1 := ⟨k - 1, by omega⟩
    obtain rfl : i = T.length := by omega
    have hl := turnP_len T T.length (Nat.le_refl _)
    simp only [spec_TurnMesh.l0]
    rw [if_neg (by omega), turnP_all]
  | succ d ih =>
    intro k i hi hd hk
    obtain ⟨k, rfl⟩ : ∃ j, k = j + 1 := ⟨k - 1, by omega⟩
    have hl := turnP_len T i hi
    have hil : i < T.length := by omega
    have h3 := hr T[i] (List.getElem_mem hil)
    have e := ih k (i + 1) (by omega) (by omega) (by omega)
    rw [← turnP_set T i hil] at e
    simp only [spec_TurnMesh.l0]
    rw [if_pos (by omega), if_pos (by omega), if_pos (by omega), rdL T i hil, if_pos (by omega), if_pos (by omega), if_pos (by omega), up i (by omega), Int.toNat_natCast]
    rw [show ([rd T[i] 0, rd T[i] 2, rd T[i] 1] : List Int) = turn3 T[i] by obtain ⟨x, y, z, exyz⟩ := tri3 h3; rw [exyz]; rfl]
    exact e
theorem turn_f (Q : List S40) (T : List (List Int)) : spec_TurnMesh.f 1000 Q T = some (turnR Q T) := by
  unfold spec_TurnMesh.f turnR
  rw [is_f Q T 1000 (by omega)]
  simp only [Option.bind_some]
  by_cases hv : validB Q.length T = true
  · obtain ⟨v1, v2, v3⟩ := valid_rows hv
    rw [if_pos hv, if_pos hv]
    unfold spec_l02Own.f
    rw [if_pos ⟨by omega, by omega, G9.okR_iff.2 (fun t ht => by have := v3 t ht; omega)⟩]
    simp only [Option.bind_some]
    have := turn_loop Q T v2 v3 T.length 1000 0 (by omega) (by omega) (by omega)
    rw [turnP_zero] at this
    exact this
  · rw [if_neg hv, if_neg hv]

theorem spec_TurnMesh (A : Option Addr) (c : Nat) (Q : List S40) (B : Option Addr) (e : Nat) (T : List (List Int)) (w : World) (hQ : Kd.C k40 w A Q.length Q) (hq : Q.length ≤ c) (hT : Kd.C (Kd.slice 2 (Kd.int .i64)) w B T.length T) (hqt : T.length ≤ e) :
    Calls Try.prog 10 #[.agg #[.slice A Q.length c, .slice B T.length e]] w (AnsR w (turnR Q T).1 (turnR Q T).2.1 (turnR Q T).2.2) := by
  refine (spec_TurnMesh.calls 1000 A c Q B e T (turnR Q T).1 (turnR Q T).2.1 (turnR Q T).2.2 w hQ hq hT hqt (turn_f Q T)).mono ?_
  rintro E w' ⟨v0, v1, rfl, hR, hN, hb⟩
  obtain ⟨A, c, rfl⟩ := Kd.R_slice hR
  obtain ⟨B, e, rfl⟩ := Kd.N_slice hN
  exact ⟨A, c, B, e, rfl, ⟨R_in hR, N_in hN (fun k hk => hk.1)⟩, hb⟩

theorem turn_small (Q : List S40) (T : List (List Int)) : (turnR Q T).1.length ≤ 1048576 ∧ (turnR Q T).2.1.length ≤ 1048576 ∧ ∀ t ∈ (turnR Q T).2.1, t.length ≤ 1048576 := by
  unfold turnR
  split
  · rename_i hv
    obtain ⟨v1, v2, v3⟩ := valid_rows hv
    refine ⟨by show Q.length ≤ _; omega, by show (T.map turn3).length ≤ _; rw [List.length_map]; omega, fun t ht => ?_⟩
    obtain ⟨u, hu, rfl⟩ := List.mem_map.1 ht
    obtain ⟨x, y, z, rfl⟩ := tri3 (v3 u hu)
    show ([x, z, y] : List Int).length ≤ _
    simp
  · exact ⟨by simp, by simp, by simp⟩
theorem turn_ok (Q : List S40) (T : List (List Int)) (h : ∀ x ∈ Q, okV x) : ∀ x ∈ (turnR Q T).1, okV x := by
  unfold turnR
  split
  · exact h
  · intro x hx; cases hx

set_option maxHeartbeats 4000000 in
set_option maxRecDepth 100000 in
theorem fnExactTurnMesh_walk (w : World) (A : Option Addr) (c : Nat) (L : List S38) (B : Option Addr) (e : Nat) (T : List (List Int)) (hL : Kd.C k38 w A L.length L) (hc : L.length ≤ c) (hT : Kd.C (Kd.slice 2 (Kd.int .i64)) w B T.length T) (he : T.length ≤ e) (ok : MeshOk L T) :
    Calls Try.prog 3 #[.agg #[.slice A L.length c, .slice B T.length e]] w fun e w' => e = .returned (.bool true) ∧ Below w.heap.size w w' := by
  have came : CameM w A c L B e T := ⟨hL, hc, hT, he⟩
  obtain ⟨r, hsm, hr1, hsz⟩ := sz_step w w A c L B e T came ok 1048576 (by omega) (by omega)
  obtain ⟨P, hP⟩ : ∃ P, P = L.map toV := ⟨_, rfl⟩
  have HSZ := Lib.hid hsz
  have K0 := Lib.hid (below_alloc (Below.refl w.heap.size w) (.cells #[.slice A L.length c, .slice B T.length e] 25))
  clear hsz hL hc hT he
  by_cases hneg : r < 0
  · clear came hsm
    go_enter Try.func3, Try.ntmps3
    go_wp2_with (first | (go_at_call 9; refine (HSZ.out _ K0.out).mono ?_; rintro E w1 ⟨rfl, hb⟩; have K1 := Lib.hid (below_then K0.out hb K0.out.size); clear hb) | fail)
    go_ret
    exact ⟨rfl, K1.out⟩
  · have hs := hsm (by omega)
    have hPl : P.length = L.length := by rw [hP, List.length_map]
    have hb1 : P.length ≤ 1048576 := by rw [hPl]; exact hs.1
    have hok : ∀ x ∈ P, okV x := by rw [hP]; exact map_ok ok.fl
    have hsim : simP P P := simP_self hok
    have hto := to_step w A c L B e T came hs P hP
    have hsmall := turn_small P T
    have hsj : simP (turnR P T).1 (turnR P T).1 := simP_self (turn_ok P T hok)
    obtain ⟨ans, hans⟩ : ∃ ans, ans = turnR P T := ⟨_, rfl⟩
    have h1 : ∀ (A : Option Addr) (c : Nat) (B : Option Addr) (e : Nat) (W : World), Kd.C k40 W A P.length P → P.length ≤ c → Kd.C (Kd.slice 2 (Kd.int .i64)) W B T.length T → T.length ≤ e → Calls Try.prog 10 #[.agg #[.slice A P.length c, .slice B T.length e]] W (AnsR W ans.1 ans.2.1 ans.2.2) := fun A c B e W p p' q q' => by rw [hans]; exact spec_TurnMesh A c P B e T W p p' q q'
    have h2 : ∀ (A : Option Addr) (c : Nat) (B : Option Addr) (e : Nat) (W : World), Kd.C k40 W A P.length P → P.length ≤ c → Kd.C (Kd.slice 2 (Kd.int .i64)) W B T.length T → T.length ≤ e → Calls Try.prog 12 #[.agg #[.slice A P.length c, .slice B T.length e]] W (AnsM W ans.1 ans.2.1 ans.2.2) := fun A c B e W p p' q q' => by rw [hans]; exact impl_TurnMesh A c P B e T W p p' q q'
    rw [← hans] at hsmall hsj
    obtain ⟨P', R, b⟩ := ans
    dsimp only at h1 h2 hsmall hsj
    have H1 := Lib.hid h1
    have H2 := Lib.hid h2
    have HTO := Lib.hid hto
    have HT1 : Hid (T.length ≤ 1048576) := Lib.hid hs.2.1
    have HT2 : Hid (∀ t ∈ T, t.length ≤ 1048576) := Lib.hid hs.2.2
    have HSI := Lib.hid hsim
    have HSJ := Lib.hid hsj
    have hp1 := hsmall.1
    have HR1 := Lib.hid hsmall.2.1
    have HR2 := Lib.hid hsmall.2.2
    have htot := tot_le T hs.2.2
    have htm : T.length ≤ 1048576 := hs.2.1
    have htot2 := tot_le R hsmall.2.2
    have htm2 := hsmall.2.1
    have hk1 : ¬ (1 + 3 * (P.length : Int) + (tot T : Int)) < 0 := by omega
    have hk2 : ¬ (1 + 3 * (P'.length : Int) + (tot R : Int)) < 0 := by omega
    have BA0 := Lib.hid (BoxAt.new w 25 (.slice A L.length c) (.slice B T.length e))
    have z0 := BA0.out.lt
    clear h1 h2 hto hs hsim hsj hsmall hsm hans hP came hPl ok hok htot htm htot2 htm2
    go_enter Try.func3, Try.ntmps3
    go_wp2_with (first
      | (go_at_call 9; refine (HSZ.out _ K0.out).mono ?_; rintro E w1 ⟨rfl, hb⟩; have z1 := hb.size; have BA1 := Lib.hid (BA0.out.below hb); have bac1 := BA1.out.c0; have bad1 := BA1.out.c1; (try clear bac0 bad0); have K1 := Lib.hid (below_then K0.out hb K0.out.size); clear hb)
      | (go_at_call 11; first
          | (rw [← WW4.out]; refine (HTO.out _ K4.out).mono ?_; rintro E w5 ⟨A5, c5, B5, e5, rfl, hx, hb, hk⟩; have z5 := hb.size; have W5 := Lib.hid (W4.out.below hb); have BA5 := Lib.hid (BA4.out.below hb); have bac5 := BA5.out.c0; have bad5 := BA5.out.c1; (try clear bac4 bad4); have BW5 := Lib.hid (BW4.out.below hb); have bwc5 := BW5.out.c0; have bwd5 := BW5.out.c1; (try clear bwc4 bwd4); have X5 := Lib.hid hx; have K5 := Lib.hid hk; obtain ⟨w6, hw6⟩ : ∃ w6, w6 = w5.alloc (.cells #[.slice A5 P.length c5, .slice B5 T.length e5] 29) := ⟨_, rfl⟩; have hv6 := below_alloc (Below.refl w5.heap.size w5) (.cells #[.slice A5 P.length c5, .slice B5 T.length e5] 29); rw [← hw6] at hv6; have z6 := hv6.size; have W6 := Lib.hid (W5.out.below hv6); have X6 := Lib.hid (X5.out.below hv6); have BA6 := Lib.hid (BA5.out.below hv6); have bac6 := BA6.out.c0; have bad6 := BA6.out.c1; (try clear bac5 bad5); have BW6 := Lib.hid (BW5.out.below hv6); have bwc6 := BW6.out.c0; have bwd6 := BW6.out.c1; (try clear bwc5 bwd5); have BX6 := Lib.hid (BoxAt.new w5 29 (.slice A5 P.length c5) (.slice B5 T.length e5)); rw [← hw6] at BX6; have y6 := BX6.out.lt; have K6 := Lib.hid (below_then K5.out hv6 K5.out.size); have WW6 := Lib.hid hw6; clear hv6 hw6; clear hx hb hk bae4 baf4)
          | (refine (HTO.out _ K1.out).mono ?_; rintro E w2 ⟨A2, c2, B2, e2, rfl, hx, hb, hk⟩; have z2 := hb.size; have BA2 := Lib.hid (BA1.out.below hb); have bac2 := BA2.out.c0; have bad2 := BA2.out.c1; (try clear bac1 bad1); have D2 := Lib.hid hx; have K2 := Lib.hid hk; clear hx hb hk))
      | (go_at_call 10; refine (H1.out _ _ _ _ _ D2.out.C.1 D2.out.C.2.1 D2.out.C.2.2.1 D2.out.C.2.2.2).mono ?_; rintro E w3 ⟨A3, c3, B3, e3, rfl, hx, hb⟩; have z3 := hb.size; have BA3 := Lib.hid (BA2.out.below hb); have bac3 := BA3.out.c0; have bad3 := BA3.out.c1; (try clear bac2 bad2); have K3 := Lib.hid (below_then K2.out hb K2.out.size); have hv4 := below_alloc (Below.refl w3.heap.size w3) (.cells #[.slice A3 P'.length c3, .slice B3 R.length e3] 29); have hn4 := BoxAt.new w3 29 (.slice A3 P'.length c3) (.slice B3 R.length e3); obtain ⟨w4, hw4⟩ : ∃ w4, w4 = w3.alloc (.cells #[.slice A3 P'.length c3, .slice B3 R.length e3] 29) := ⟨_, rfl⟩; rw [← hw4] at hv4 hn4; have z4 := hv4.size; have y4 := hn4.lt; have W4 := Lib.hid (hx.below hv4); have BW4 := Lib.hid hn4; have BA4 := Lib.hid (BA3.out.below hv4); have bac4 := BA4.out.c0; have bad4 := BA4.out.c1; (try clear bac3 bad3); 
         have bae4 : (w3.alloc (.cells #[.slice A3 P'.length c3, .slice B3 R.length e3] 29)).cell? ⟨w.heap.size, 0, none⟩ = some (.slice A L.length c) := by rw [← hw4]; exact bac4
         have baf4 : (w3.alloc (.cells #[.slice A3 P'.length c3, .slice B3 R.length e3] 29)).cell? ⟨w.heap.size, 1, none⟩ = some (.slice B T.length e) := by rw [← hw4]; exact bad4
         have K4 := Lib.hid (below_then K3.out hv4 K3.out.size); have WW4 := Lib.hid hw4; clear hb hv4 hn4 hw4 hx)
      | (go_at_call 12; rw [← WW6.out]; refine (H2.out _ _ _ _ _ X6.out.C.1 X6.out.C.2.1 X6.out.C.2.2.1 X6.out.C.2.2.2).mono ?_; rintro E w7 ⟨A7, c7, B7, e7, rfl, hx, hb⟩; have z7 := hb.size; have W7 := Lib.hid (W6.out.below hb); have X7 := Lib.hid (X6.out.below hb); have BA7 := Lib.hid (BA6.out.below hb); have bac7 := BA7.out.c0; have bad7 := BA7.out.c1; (try clear bac6 bad6); have BX7 := Lib.hid (BX6.out.below hb); have bxc7 := BX7.out.c0; have bxd7 := BX7.out.c1; (try clear bxc6 bxd6); have BW7 := Lib.hid (BW6.out.below hb); have bwc7 := BW7.out.c0; have bwd7 := BW7.out.c1; (try clear bwc6 bwd6); have K7 := Lib.hid (below_then K6.out hb K6.out.size)
         have hv8 := below_alloc (Below.refl w7.heap.size w7) (.cells #[.slice A7 P'.length c7, .slice B7 R.length e7] 29)
         have hn := BoxAt.new w7 29 (.slice A7 P'.length c7) (.slice B7 R.length e7)
         have hm := BW7.out.below hv8
         have u0 := hn.c0; have u1 := hn.c1; have v0 := hm.c0; have v1 := hm.c1
         obtain ⟨w8, hw8⟩ : ∃ w8, w8 = w7.alloc (.cells #[.slice A7 P'.length c7, .slice B7 R.length e7] 29) := ⟨_, rfl⟩
         have hn8 := hn
         rw [← hw8] at hv8 hn8; have z8 := hv8.size; have y8 := hn8.lt; have G8 := Lib.hid (hx.below hv8); have BG8 := Lib.hid hn8; have W8 := Lib.hid (W7.out.below hv8); have X8 := Lib.hid (X7.out.below hv8); have BA8 := Lib.hid (BA7.out.below hv8); have bac8 := BA8.out.c0; have bad8 := BA8.out.c1; (try clear bac7 bad7); have BX8 := Lib.hid (BX7.out.below hv8); have bxc8 := BX8.out.c0; have bxd8 := BX8.out.c1; (try clear bxc7 bxd7); have BW8 := Lib.hid (BW7.out.below hv8); have bwc8 := BW8.out.c0; have bwd8 := BW8.out.c1; (try clear bwc7 bwd7); have K8 := Lib.hid (below_then K7.out hv8 K7.out.size); have WW8 := Lib.hid hw8; clear hb hx hv8 hn hn8 hm hw8)
      | (go_at_call 13; rw [← WW8.out]; refine (eqR_step P' P' R HSJ.out hp1 HR1.out HR2.out _ _ _ _ _ _ _ _ _ _ _ _ _ G8.out W8.out).mono ?_; rintro E w9 ⟨rfl, hb⟩; have z9 := hb.size; have W9 := Lib.hid (W8.out.below hb); have X9 := Lib.hid (X8.out.below hb); have G9 := Lib.hid (G8.out.below hb); have BA9 := Lib.hid (BA8.out.below hb); have bac9 := BA9.out.c0; have bad9 := BA9.out.c1; (try clear bac8 bad8); have BX9 := Lib.hid (BX8.out.below hb); have bxc9 := BX9.out.c0; have bxd9 := BX9.out.c1; (try clear bxc8 bxd8); have BW9 := Lib.hid (BW8.out.below hb); have bwc9 := BW9.out.c0; have bwd9 := BW9.out.c1; (try clear bwc8 bwd8); have BG9 := Lib.hid (BG8.out.below hb); have bgc9 := BG9.out.c0; have bgd9 := BG9.out.c1; (try clear bgc8 bgd8); have K9 := Lib.hid (below_then K8.out hb K8.out.size); clear hb u0 u1 v0 v1)
      | fail)
    obtain ⟨Rr, hR⟩ : ∃ Rr : World → Prop, Rr = fun W => OwnM W w4.heap.size w5.heap.size (.slice A5 P.length c5) (.slice B5 T.length e5) P T ∧ RefM W w2.heap.size w3.heap.size (.slice A3 P'.length c3) (.slice B3 R.length e3) P' R ∧ OwnM W w6.heap.size w7.heap.size (.slice A7 P'.length c7) (.slice B7 R.length e7) P' R ∧ BoxAt W w3.heap.size 29 (.slice A3 P'.length c3) (.slice B3 R.length e3) ∧ BoxAt W w7.heap.size 29 (.slice A7 P'.length c7) (.slice B7 R.length e7) ∧ Below w.heap.size w W ∧ w9.heap.size ≤ W.heap.size := ⟨_, rfl⟩
    have hRb : ∀ W W', Rr W → Below W.heap.size W W' → Rr W' := by rw [hR]; rintro W W' ⟨x1, x2, x3, x4, x5, x6, x7⟩ hb; exact ⟨x1.below hb, x2.below hb, x3.below hb, x4.below hb, x5.below hb, below_then x6 hb x6.size, Nat.le_trans x7 hb.size⟩
    have hR0 : Rr w9 := by rw [hR]; exact ⟨X9.out, W9.out, G9.out, BW9.out, BG9.out, K9.out, Nat.le_refl _⟩
    have hRK : ∀ W, Rr W → Below w.heap.size w W := by rw [hR]; rintro W ⟨_, _, _, _, _, x6, _⟩; exact x6
    have hRX : ∀ W, Rr W → OwnM W w4.heap.size w5.heap.size (.slice A5 P.length c5) (.slice B5 T.length e5) P T := by rw [hR]; rintro W ⟨x1, _⟩; exact x1
    have HRD := Lib.hid hR
    have HRB := Lib.hid hRb
    have HRK := Lib.hid hRK
    have HRX := Lib.hid hRX
    have hS0 : w9.cell? ⟨w.heap.size, 0, none⟩ = some (.slice A L.length c) ∧ w9.cell? ⟨w.heap.size, 1, none⟩ = some (.slice B T.length e) ∧ w9.cell? ⟨w5.heap.size, 0, none⟩ = some (.slice A5 P.length c5) ∧ w9.cell? ⟨w5.heap.size, 1, none⟩ = some (.slice B5 T.length e5) ∧ BoxAt w9 w.heap.size 25 (.slice A L.length c) (.slice B T.length e) ∧ BoxAt w9 w5.heap.size 29 (.slice A5 P.length c5) (.slice B5 T.length e5) ∧ Rr w9 := ⟨BA9.out.c0, BA9.out.c1, BX9.out.c0, BX9.out.c1, BA9.out, BX9.out, hR0⟩
    clear hR hRb hRK hRX hR0 bac9 bad9 bxc9 bxd9 bwc9 bwd9 bgc9 bgd9
    go_region_held3 (fun w' => w'.cell? ⟨w.heap.size, 0, none⟩ = some (.slice A L.length c) ∧ w'.cell? ⟨w.heap.size, 1, none⟩ = some (.slice B T.length e) ∧ w'.cell? ⟨w5.heap.size, 0, none⟩ = some (.slice A5 P.length c5) ∧ w'.cell? ⟨w5.heap.size, 1, none⟩ = some (.slice B5 T.length e5) ∧ BoxAt w' w.heap.size 25 (.slice A L.length c) (.slice B T.length e) ∧ BoxAt w' w5.heap.size 29 (.slice A5 P.length c5) (.slice B5 T.length e5) ∧ Rr w') (first | with_reducible assumption | with_reducible exact keep4 HRB.out (by with_reducible assumption) (by with_reducible assumption) | with_reducible exact keep4d HRB.out (by with_reducible assumption))
      (first | (go_at_call 11; (with_reducible refine (HTO.out _ (HRK.out _ (rest4 (by with_reducible assumption)))).mono ?_); rintro E w10 ⟨A10, c10, B10, e10, rfl, hx, hb, hk⟩; have D10 := Lib.hid hx; clear hx hk) | (go_at_call 13; (with_reducible refine (eq_step P P T HSI.out hb1 HT1.out HT2.out _ _ _ _ _ 0 0 _ _ 0 0 _ _ _ _ _ _ (HRX.out _ (rest4 (by with_reducible assumption))) D10.out).mono ?_); rintro E w11 ⟨rfl, hb⟩))
    all_goals
      rename_i hH
      obtain ⟨bac11, bad11, bxc11, bxd11, bA, bX, hr⟩ := hH
      rw [HRD.out] at hr
      obtain ⟨r1, r2, r3, r4, r5, r6, z11⟩ := hr
      have BA11 := Lib.hid bA
      have BX11 := Lib.hid bX
      have X11 := Lib.hid r1
      have W11 := Lib.hid r2
      have G11 := Lib.hid r3
      have BW11 := Lib.hid r4
      have BG11 := Lib.hid r5
      have K11 := Lib.hid r6
      have bwc11 := r4.c0; have bwd11 := r4.c1; have bgc11 := r5.c0; have bgd11 := r5.c1
      clear bA bX r1 r2 r3 r4 r5 r6
      go_wp2_with (first
        | (go_at_call 14; first
            | (refine (markM_step P' R hp1 HR1.out HR2.out 1 (by omega) (by omega) _ _ _ _ _ _ _ G13.out w K13.out (by omega) (by omega)).mono ?_; rintro E w14 ⟨rfl, hx, hk, hb⟩; have z14 := hk.1; have W14 := Lib.hid (W13.out.kept hk (by omega)); have BA14 := Lib.hid (BA13.out.kept hk (by omega)); have bac14 := BA14.out.c0; have bad14 := BA14.out.c1; (try clear bac13 bad13); have BW14 := Lib.hid (BW13.out.kept hk (by omega)); have bwc14 := BW14.out.c0; have bwd14 := BW14.out.c1; (try clear bwc13 bwd13); have BG14 := Lib.hid (BG13.out.kept hk (by omega)); have bgc14 := BG14.out.c0; have bgd14 := BG14.out.c1; (try clear bgc13 bgd13); have G14 := Lib.hid hx; have K14 := Lib.hid hb; clear hx hk hb)
            | (refine (markM_step P T hb1 HT1.out HT2.out 1 (by omega) (by omega) _ _ _ _ _ _ _ X11.out w K11.out (by omega) (by omega)).mono ?_; rintro E w12 ⟨rfl, hx, hk, hb⟩; have z12 := hk.1; have W12 := Lib.hid (W11.out.kept hk (by omega)); have G12 := Lib.hid (G11.out.kept hk (by omega)); have BA12 := Lib.hid (BA11.out.kept hk (by omega)); have bac12 := BA12.out.c0; have bad12 := BA12.out.c1; (try clear bac11 bad11); have BW12 := Lib.hid (BW11.out.kept hk (by omega)); have bwc12 := BW12.out.c0; have bwd12 := BW12.out.c1; (try clear bwc11 bwd11); have BG12 := Lib.hid (BG11.out.kept hk (by omega)); have bgc12 := BG12.out.c0; have bgd12 := BG12.out.c1; (try clear bgc11 bgd11); have K12 := Lib.hid hb; clear hx hk hb))
        | (go_at_call 13; first
            | (rw [← WW18.out]; refine (eqR_step P' P' R HSJ.out hp1 HR1.out HR2.out _ _ _ _ _ _ _ _ _ _ _ _ _ H18.out W18.out).mono ?_; rintro E w19 ⟨rfl, hb⟩; have z19 := hb.size; have G19 := Lib.hid (G18.out.below hb); have BG19 := Lib.hid (BG18.out.below hb); have bgc19 := BG19.out.c0; have bgd19 := BG19.out.c1; (try clear bgc18 bgd18); have K19 := Lib.hid (below_then K18.out hb K18.out.size); clear hb u0 u1 v0 v1)
            | (refine (eqR_step P' P' R HSJ.out hp1 HR1.out HR2.out _ _ _ _ _ _ _ _ _ _ _ _ _ G12.out W12.out).mono ?_; rintro E w13 ⟨rfl, hb⟩; have z13 := hb.size; have W13 := Lib.hid (W12.out.below hb); have G13 := Lib.hid (G12.out.below hb); have BA13 := Lib.hid (BA12.out.below hb); have bac13 := BA13.out.c0; have bad13 := BA13.out.c1; (try clear bac12 bad12); have BW13 := Lib.hid (BW12.out.below hb); have bwc13 := BW13.out.c0; have bwd13 := BW13.out.c1; (try clear bwc12 bwd12); have BG13 := Lib.hid (BG12.out.below hb); have bgc13 := BG13.out.c0; have bgd13 := BG13.out.c1; (try clear bgc12 bgd12); have K13 := Lib.hid (below_then K12.out hb K12.out.size); clear hb))
        | (go_at_call 15; first
            | (refine (heldM_step P' R hp1 HR1.out HR2.out 1 (by omega) (by omega) _ _ _ _ _ _ _ G19.out).mono ?_; rintro E w20 ⟨rfl, hb⟩; have K20 := Lib.hid (below_then K19.out hb K19.out.size); clear hb)
            | (refine (heldM_step P' R hp1 HR1.out HR2.out 1 (by omega) (by omega) _ _ _ _ _ _ _ G14.out).mono ?_; rintro E w15 ⟨rfl, hb⟩; have z15 := hb.size; have W15 := Lib.hid (W14.out.below hb); have G15 := Lib.hid (G14.out.below hb); have BA15 := Lib.hid (BA14.out.below hb); have bac15 := BA15.out.c0; have bad15 := BA15.out.c1; (try clear bac14 bad14); have BW15 := Lib.hid (BW14.out.below hb); have bwc15 := BW15.out.c0; have bwd15 := BW15.out.c1; (try clear bwc14 bwd14); have BG15 := Lib.hid (BG14.out.below hb); have bgc15 := BG15.out.c0; have bgd15 := BG15.out.c1; (try clear bgc14 bgd14); have K15 := Lib.hid (below_then K14.out hb K14.out.size); clear hb))
        | (go_at_call 11; refine (HTO.out _ K15.out).mono ?_; rintro E w16 ⟨A16, c16, B16, e16, rfl, hx, hb, hk⟩; have z16 := hb.size; have W16 := Lib.hid (W15.out.below hb); have G16 := Lib.hid (G15.out.below hb); have BA16 := Lib.hid (BA15.out.below hb); have bac16 := BA16.out.c0; have bad16 := BA16.out.c1; (try clear bac15 bad15); have BW16 := Lib.hid (BW15.out.below hb); have bwc16 := BW16.out.c0; have bwd16 := BW16.out.c1; (try clear bwc15 bwd15); have BG16 := Lib.hid (BG15.out.below hb); have bgc16 := BG16.out.c0; have bgd16 := BG16.out.c1; (try clear bgc15 bgd15); have D16 := Lib.hid hx; have K16 := Lib.hid hk; clear hx hb hk)
        | (go_at_call 12; refine (H2.out _ _ _ _ _ D16.out.C.1 D16.out.C.2.1 D16.out.C.2.2.1 D16.out.C.2.2.2).mono ?_; rintro E w17 ⟨A17, c17, B17, e17, rfl, hx, hb⟩; have z17 := hb.size; have W17 := Lib.hid (W16.out.below hb); have G17 := Lib.hid (G16.out.below hb); have BA17 := Lib.hid (BA16.out.below hb); have bac17 := BA17.out.c0; have bad17 := BA17.out.c1; (try clear bac16 bad16); have BW17 := Lib.hid (BW16.out.below hb); have bwc17 := BW17.out.c0; have bwd17 := BW17.out.c1; (try clear bwc16 bwd16); have BG17 := Lib.hid (BG16.out.below hb); have bgc17 := BG17.out.c0; have bgd17 := BG17.out.c1; (try clear bgc16 bgd16); have K17 := Lib.hid (below_then K16.out hb K16.out.size)
           have hv18 := below_alloc (Below.refl w17.heap.size w17) (.cells #[.slice A17 P'.length c17, .slice B17 R.length e17] 29)
           have hn := BoxAt.new w17 29 (.slice A17 P'.length c17) (.slice B17 R.length e17)
           have hm := BW17.out.below hv18
           have u0 := hn.c0; have u1 := hn.c1; have v0 := hm.c0; have v1 := hm.c1
           obtain ⟨w18, hw18⟩ : ∃ w18, w18 = w17.alloc (.cells #[.slice A17 P'.length c17, .slice B17 R.length e17] 29) := ⟨_, rfl⟩
           rw [← hw18] at hv18; have z18 := hv18.size; have H18 := Lib.hid (hx.below hv18); have W18 := Lib.hid (W17.out.below hv18); have G18 := Lib.hid (G17.out.below hv18); have BA18 := Lib.hid (BA17.out.below hv18); have bac18 := BA18.out.c0; have bad18 := BA18.out.c1; (try clear bac17 bad17); have BW18 := Lib.hid (BW17.out.below hv18); have bwc18 := BW18.out.c0; have bwd18 := BW18.out.c1; (try clear bwc17 bwd17); have BG18 := Lib.hid (BG17.out.below hv18); have bgc18 := BG18.out.c0; have bgd18 := BG18.out.c1; (try clear bgc17 bgd17); have K18 := Lib.hid (below_then K17.out hv18 K17.out.size); have WW18 := Lib.hid hw18; clear hb hx hv18 hn hm hw18)
        | fail)
      go_ret
      exact ⟨rfl, K20.out⟩

end Go.Proofs.Ytlendjpmblapkab
namespace Go.Proofs.Ytlendjpmblapkab
open Go.ChangeShapes Go.WideShapes Go.ChangeAt Go.RowKit Go.Deep
open Go.ChangeMaps (open_string shut_string)

/-- A row of cells that can be read from A on; nil has none. -/
def RowIn (w : World) (A : Option Addr) (cs : List Value) : Prop :=
  (A = none ∧ cs = []) ∨ ∃ b off, A = some ⟨b, off, none⟩ ∧ b < w.heap.size ∧ ∀ i v, cs[i]? = some v → w.cell? ⟨b, off + i, none⟩ = some v

section
variable {H : Type} {enc : TypeId × Value → H} {P : Program} {w : World} {base : Nat} {spare : Nat → Bool} {held : Bool}

theorem flt_lt {k : FloatKind} {b : Nat} (h : (Lit.float k b).wf = true) : b < 2 ^ k.format.width := by
  cases k
  · show b < 4294967296; simpa [Lit.wf] using h
  · show b < 18446744073709551616; simpa [Lit.wf] using h

theorem op_float {r : Reach} {b0 : Nat} {t : TypeId} {k : FloatKind} {v : Value} {d : DataW H} {ps : List MemPlace} (ht : P.underlying t = some (.float k)) (hval : Value.okWide P w r b0 t v) (hd : DataW.Trod enc P w base spare held t v d ps) :
    ∃ b, b < 2 ^ k.format.width ∧ v = .float k b := by
  obtain ⟨b, rfl, _, _, hw⟩ := open_float ht hval hd
  exact ⟨b, flt_lt hw, rfl⟩

theorem op_int {r : Reach} {b0 : Nat} {t : TypeId} {k : IntKind} {v : Value} {d : DataW H} {ps : List MemPlace} (ht : P.underlying t = some (.int k)) (hval : Value.okWide P w r b0 t v) (hd : DataW.Trod enc P w base spare held t v d ps) :
    ∃ n, (k.min ≤ n ∧ n ≤ k.max) ∧ v = .int k n := by
  obtain ⟨n, rfl, _, _, hw⟩ := open_int ht hval hd
  exact ⟨n, by simpa [Lit.wf] using hw, rfl⟩

theorem op_string {r : Reach} {b0 : Nat} {t : TypeId} {v : Value} {d : DataW H} {ps : List MemPlace} (ht : P.underlying t = some .string) (hval : Value.okWide P w r b0 t v) (hd : DataW.Trod enc P w base spare held t v d ps) :
    ∃ s : ByteArray, s.size ≤ maxLen ∧ v = .string s := by
  obtain ⟨s, rfl, _, _, hw⟩ := open_string ht hval hd
  exact ⟨s, hw, rfl⟩

theorem trod_float {t : TypeId} {k : FloatKind} {n : Nat} {v : Value} {x : DataW H × List MemPlace} (ht : P.underlying t = some (.float k)) (h : DataW.trod enc P w base spare held n t [v] = some x) :
    ∃ b, b < 2 ^ k.format.width ∧ v = .float k b := by
  cases n with
  | zero => simp [DataW.trod] at h
  | succ n =>
    simp only [DataW.trod, ht] at h
    cases v <;> simp at h
    rename_i k' b
    obtain ⟨⟨rfl, hw⟩, _⟩ := h
    exact ⟨b, flt_lt hw, rfl⟩

theorem op_vec {r : Reach} {b0 : Nat} {t f : TypeId} {F : Array Field} {v : Value} {d : DataW H} {p : List MemPlace} (hs : P.underlying t = some (.struct F)) (hf : P.underlying f = some (.float .f32))
    (hF : (F.map (·.type)) = #[f, f, f]) (hone0 : oneCellFields P F = true) (hC : P.cellsOf t = 3)
    (hv : Value.okWide P w r b0 t v) (h : DataW.Trod enc P w base spare held t v d p) :
    ∃ x y z : Nat, x < 2 ^ 32 ∧ y < 2 ^ 32 ∧ z < 2 ^ 32 ∧ v = .agg #[.float .f32 x, .float .f32 y, .float .f32 z] := by
  obtain ⟨F⟩ := F
  have hl : F.length = 3 := by simpa using congrArg Array.size hF
  match F, hl with
  | [f0, f1, f2], _ =>
    simp at hF
    obtain ⟨e0, e1, e2⟩ := hF
    have hone : oneCellFields P #[f0, f1, f2] = true := hone0
    obtain ⟨v0, v1, v2, y0, y1, y2, n, rfl, _, _, t0, t1, t2⟩ := Joins.open_agg3 hs hone hC hv h
    rw [e0] at t0; rw [e1] at t1; rw [e2] at t2
    obtain ⟨x, hx, rfl⟩ := trod_float hf t0
    obtain ⟨y, hy, rfl⟩ := trod_float hf t1
    obtain ⟨z, hz, rfl⟩ := trod_float hf t2
    exact ⟨x, y, z, hx, hy, hz, rfl⟩
end
end Go.Proofs.Ytlendjpmblapkab
namespace Go.Proofs.Ytlendjpmblapkab
open Go.ChangeShapes Go.WideShapes Go.ChangeAt Go.RowKit Go.Deep Go.Proofs.YtlendjpmblapkabW.PrintWords Go.Proofs.Ytlendjpmblapkab.PMesh Msh
set_option linter.unusedVariables false

section
variable {H : Type} {enc : TypeId × Value → H} {P : Program} {w : World} {base : Nat} {held : Bool}

/-- A slice whose elements are opened one by one. -/
theorem op_rows {α : Type} (d : Kd α) (ok : α → Prop) {t e : TypeId} (ht : P.underlying t = some (.slice e)) (hC : P.cellsOf e = d.sz)
    (hel : ∀ (n : Nat) (cs : List Value) (y : DataW H × List MemPlace), DataW.trod enc P w base (fun _ => true) held n e cs = some y → ∃ x : α, d.K w x cs ∧ ok x)
    {fuel : Nat} {cs : List Value} {y : DataW H × List MemPlace} (h : DataW.trod enc P w base (fun _ => true) held fuel t cs = some y) :
    ∃ (A : Option Addr) (c : Nat) (xs : List α), cs = [.slice A xs.length c] ∧ xs.length ≤ c ∧ xs.length ≤ 9223372036854775807 ∧ Kd.C d w A xs.length xs ∧ ∀ x ∈ xs, ok x := by
  rcases open_slice ht h with ⟨rfl, _⟩ | ⟨a, len, cap, m, n, D, Pl, rfl, _, hl, hm, hmm, hyy, hx⟩
  · exact ⟨none, 0, [], rfl, Nat.le_refl _, by simp, Kd.C_nil d w, fun x hx => by simp at hx⟩
  · have hml : len ≤ m := by rw [hmm]; split <;> omega
    have each : ∀ i, i < len → ∃ x : α, (∃ cs', w.cells? base (a.add (i * d.sz)) d.sz = some cs' ∧ d.K w x cs') ∧ ok x := by
      intro i hi
      obtain ⟨cs', hc, ht'⟩ := hx i (by omega)
      rw [hC] at hc
      obtain ⟨x, hk, ho⟩ := hel n cs' _ ht'
      exact ⟨x, ⟨cs', hc, hk⟩, ho⟩
    obtain ⟨xs, hxl, hxs⟩ : ∃ xs : List α, xs.length = len ∧ ∀ i x, xs[i]? = some x → (∃ cs', w.cells? base (a.add (i * d.sz)) d.sz = some cs' ∧ d.K w x cs') ∧ ok x := by
      clear hx hml hmm hl hm hyy h
      induction len with
      | zero => exact ⟨[], rfl, fun i x hx => by simp at hx⟩
      | succ k ih =>
        obtain ⟨xs, hl, hx⟩ := ih (fun i hi => each i (by omega))
        obtain ⟨z, hz⟩ := each k (by omega)
        refine ⟨xs ++ [z], by simp [hl], fun i x hix => ?_⟩
        rcases Nat.lt_or_ge i xs.length with h' | h'
        · rw [List.getElem?_append_left h'] at hix
          exact hx i x hix
        · rw [List.getElem?_append_right h'] at hix
          have : i - xs.length = 0 := by
            rcases Nat.eq_zero_or_pos (i - xs.length) with h0 | h0
            · exact h0
            · rw [List.getElem?_eq_none (by simp; omega)] at hix; cases hix
          obtain rfl : i = k := by omega
          rw [this] at hix
          cases hix
          exact hz
    have hM : maxLen = 9223372036854775807 := rfl
    subst hxl
    refine ⟨some a, cap, xs, rfl, hl, by omega, ⟨rfl, by omega, fun _ => ⟨a, rfl, fun j p hj => ?_⟩⟩, fun x hxm => ?_⟩
    · obtain ⟨⟨cs', hc, hk⟩, _⟩ := hxs j p hj
      obtain ⟨_, hcl, hat⟩ := World.cells?_some hc
      refine ⟨cs', hcl, hk, fun i u hu => ?_⟩
      have hi : i < d.sz := by
        rcases Nat.lt_or_ge i cs'.length with h' | h'
        · omega
        · rw [List.getElem?_eq_none h'] at hu; cases hu
      have := hat i hi
      rw [Go.Deep.add_add] at this
      rw [this, hu]
    · obtain ⟨i, hi, rfl⟩ := List.getElem_of_mem hxm
      exact (hxs i _ (List.getElem?_eq_getElem hi)).2

theorem trod_int1 {t : TypeId} {k : IntKind} {n : Nat} {cs : List Value} {x : DataW H × List MemPlace} (ht : P.underlying t = some (.int k)) (hC : P.cellsOf t = 1) (h : DataW.trod enc P w base (fun _ => true) held n t cs = some x) :
    ∃ b : Int, cs = [.int k b] ∧ (Lit.int k b).wf = true := by
  cases n with
  | zero => simp [DataW.trod] at h
  | succ n =>
    simp only [DataW.trod, ht] at h
    match cs with
    | [] => simp at h
    | [v] =>
      cases v <;> simp at h
      rename_i k' b
      obtain ⟨⟨rfl, hw⟩, _⟩ := h
      exact ⟨b, rfl, hw⟩
    | _ :: _ :: _ => simp at h

theorem op_tris {t e q : TypeId} (ht : P.underlying t = some (.slice e)) (he : P.underlying e = some (.slice q)) (hq : P.underlying q = some (.int .i64)) (ce : P.cellsOf e = 1) (cq : P.cellsOf q = 1)
    {fuel : Nat} {cs : List Value} {y : DataW H × List MemPlace} (h : DataW.trod enc P w base (fun _ => true) held fuel t cs = some y) :
    ∃ (A : Option Addr) (c : Nat) (T : List (List Int)), cs = [.slice A T.length c] ∧ T.length ≤ c ∧ T.length ≤ 9223372036854775807 ∧ Kd.C (Kd.slice q (Kd.int .i64)) w A T.length T ∧ ∀ t ∈ T, t.length ≤ 9223372036854775807 := by
  refine op_rows (Kd.slice q (Kd.int .i64)) (fun t => t.length ≤ 9223372036854775807) ht ce (fun n cs y hy => ?_) h
  obtain ⟨A, c, xs, rfl, hc, hl, hC, _⟩ := op_rows (Kd.int .i64) (fun _ => True) he cq (fun n cs y hy => by
    obtain ⟨b, rfl, _⟩ := trod_int1 hq cq hy
    exact ⟨b, rfl, trivial⟩) hy
  exact ⟨xs, ⟨A, c, rfl, hc, hC⟩, hl⟩

theorem op_vrow {t f : TypeId} {f0 f1 f2 : Field} {n : Nat} {cs : List Value} {x : DataW H × List MemPlace} (hs : P.underlying t = some (.struct #[f0, f1, f2])) (hf : P.underlying f = some (.float .f32)) (e0 : f0.type = f) (e1 : f1.type = f) (e2 : f2.type = f)
    (hone : oneCellFields P #[f0, f1, f2] = true) (hC : P.cellsOf t = 3) (h : DataW.trod enc P w base (fun _ => true) held n t cs = some x) :
    ∃ a b c : Nat, a < 4294967296 ∧ b < 4294967296 ∧ c < 4294967296 ∧ cs = [.float .f32 a, .float .f32 b, .float .f32 c] := by
  obtain ⟨y0, y1, y2, m, _, hl, t0, t1, t2⟩ := trod_struct3 hs h
  rw [hC] at hl
  obtain ⟨o0, k0⟩ := hone_of hone 0 f0 rfl
  obtain ⟨o1, k1⟩ := hone_of hone 1 f1 rfl
  obtain ⟨o2, k2⟩ := hone_of hone 2 f2 rfl
  match cs, hl with
  | [v0, v1, v2], _ =>
    rw [o0, k0, e0] at t0
    rw [o1, k1, e1] at t1
    rw [o2, k2, e2] at t2
    obtain ⟨a, ha, rfl⟩ := trod_float (v := v0) hf t0
    obtain ⟨b, hb, rfl⟩ := trod_float (v := v1) hf t1
    obtain ⟨c, hc, rfl⟩ := trod_float (v := v2) hf t2
    exact ⟨a, b, c, ha, hb, hc, rfl⟩

theorem op_mesh {r : Reach} {b0 : Nat} {t tp tv tf tt ts ti : TypeId} {F G : Array Field} {v : Value} {d : DataW H} {p : List MemPlace}
    (hs : P.underlying t = some (.struct F)) (hF : (F.map (·.type)) = #[tp, tt]) (hone : oneCellFields P F = true) (hC : P.cellsOf t = 2)
    (hp : P.underlying tp = some (.slice tv)) (hv : P.underlying tv = some (.struct G)) (hG : (G.map (·.type)) = #[tf, tf, tf]) (honeG : oneCellFields P G = true) (hCv : P.cellsOf tv = 3) (hf : P.underlying tf = some (.float .f32))
    (ht : P.underlying tt = some (.slice ts)) (hts : P.underlying ts = some (.slice ti)) (hti : P.underlying ti = some (.int .i64)) (cs1 : P.cellsOf ts = 1) (ci : P.cellsOf ti = 1)
    (hval : Value.okWide P w r b0 t v) (h : DataW.Trod enc P w base (fun _ => true) held t v d p) :
    ∃ (A : Option Addr) (c : Nat) (L : List S38) (B : Option Addr) (e : Nat) (T : List (List Int)), v = .agg #[.slice A L.length c, .slice B T.length e] ∧ Kd.C k38 w A L.length L ∧ L.length ≤ c ∧ Kd.C (Kd.slice ti (Kd.int .i64)) w B T.length T ∧ T.length ≤ e ∧ MeshOk L T := by
  obtain ⟨F⟩ := F
  obtain ⟨G⟩ := G
  have hl : F.length = 2 := by simpa using congrArg Array.size hF
  have hlG : G.length = 3 := by simpa using congrArg Array.size hG
  match F, hl, G, hlG with
  | [f0, f1], _, [g0, g1, g2], _ =>
    simp at hF hG
    obtain ⟨e0, e1⟩ := hF
    obtain ⟨e2, e3, e4⟩ := hG
    obtain ⟨v0, v1, y0, y1, n, rfl, _, _, t0, t1⟩ := Joins.open_agg2 hs hone hC hval h
    rw [e0] at t0
    rw [e1] at t1
    obtain ⟨A, c, L, hA, hc, hL, hCL, hok⟩ := op_rows k38 (fun x => x.f0 < 4294967296 ∧ x.f1 < 4294967296 ∧ x.f2 < 4294967296) hp hCv (fun n cs y hy => by
      obtain ⟨a, b, c, ha, hb, hc, rfl⟩ := op_vrow hv hf e2 e3 e4 honeG hCv hy
      exact ⟨⟨a, b, c⟩, k38_mk w ⟨a, b, c⟩, ha, hb, hc⟩) t0
    obtain ⟨B, e, T, hB, he, hT, hCT, hr⟩ := op_tris ht hts hti cs1 ci t1
    cases hA
    cases hB
    exact ⟨A, c, L, B, e, T, rfl, hCL, hc, hCT, he, ⟨hL, hT, hr, hok⟩⟩
end
end Go.Proofs.Ytlendjpmblapkab
