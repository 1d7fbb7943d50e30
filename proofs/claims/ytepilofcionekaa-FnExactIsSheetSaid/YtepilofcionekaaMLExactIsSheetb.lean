/-
  The proof's texts, one behind the other: XM1 XMmark XMrows XM2 XMlaw XUat XUedge0 XUmap XMref XMcopy XMval XUsheet0 XUsheet XUsheet1 XUedge1 XUsheets XUsheetl XOpen XMopen.
-/
import Derived.Test.YtepilofcionekaaFw
import Derived.Test.YtepilofcionekaaPMeshx4
import Derived.Test.YtepilofcionekaaPMeshx9
import Derived.Test.YtepilofcionekaaPMeshx15
import Derived.Test.YtepilofcionekaaPMeshx24
import Derived.Test.YtepilofcionekaaPMeshx35
import Derived.Test.YtepilofcionekaaPMeshx16
import Derived.Lib.Hide
import Derived.OwnWalk
import Derived.Test.YtepilofcionekaaPMeshx18
import Derived.Test.YtepilofcionekaaPMeshx26
import Derived.Maps.OwnSet
import Derived.WideKeyPair
import Derived.WideKeyEntry
import Derived.DeepKeys4
import Derived.Test.YtepilofcionekaaPMeshx36
import Derived.Test.YtepilofcionekaaPMeshx23
import Derived.Deep.RegionHeld3
import Derived.Test.YtepilofcionekaaPMeshx30
import Derived.Test.YtepilofcionekaaPMeshx29
import Derived.Laws.Cover2
import Derived.ProofKit
import Derived.WalkKit
import Derived.OpenShut
import Derived.Lib.SmallJoins
import Derived.Deep.Slices
import Derived.ChangeSame
namespace Go.Proofs.Ytepilofcionekaa.Msh
open Fl Go.RowKit Go.Proofs.YtepilofcionekaaW.PrintWords Go.Proofs.Ytepilofcionekaa.PMesh
set_option linter.unusedVariables false
set_option linter.unusedSimpArgs false

theorem wrap_fit {x : Int} (h0 : -9223372036854775808 ≤ x) (h1 : x ≤ 9223372036854775807) : wrap64 x = x := by unfold wrap64; omega

theorem rdI (l : List Int) (i : Nat) (h : i < l.length) : rd l (i : Int) = l[i] := by
  unfold rd
  rw [Int.toNat_natCast, List.getD_eq_getElem?_getD, List.getElem?_eq_getElem h]; rfl
theorem rdL (l : List (List Int)) (i : Nat) (h : i < l.length) : rd_L3 l (i : Int) = l[i] := by
  unfold rd_L3
  rw [Int.toNat_natCast, List.getD_eq_getElem?_getD, List.getElem?_eq_getElem h]; rfl
theorem rdV (l : List S42) (i : Nat) (h : i < l.length) : rd_T42 l (i : Int) = l[i] := by
  unfold rd_T42
  rw [Int.toNat_natCast, List.getD_eq_getElem?_getD, List.getElem?_eq_getElem h]; rfl
theorem rdW (l : List S122) (i : Nat) (h : i < l.length) : rd_T122 l (i : Int) = l[i] := by
  unfold rd_T122
  rw [Int.toNat_natCast, List.getD_eq_getElem?_getD, List.getElem?_eq_getElem h]; rfl

theorem up (i : Nat) (h : i ≤ 9223372036854775806) : wrap64 ((i : Int) + 1) = ((i + 1 : Nat) : Int) := by rw [wrap_fit (by omega) (by omega)]; omega

/-! sizes -/
theorem sz_loop (T : List (List Int)) (hr : ∀ t ∈ T, t.length ≤ 9223372036854775807) (hT : T.length ≤ 1048576) (d : Nat) : ∀ (k i : Nat) (a : Int), i ≤ T.length → T.length - i = d → d < k → 0 ≤ a → a ≤ 1048576 →
    ∃ r, laws_szInt64SS.l0 k T a (i : Int) = some r ∧ r ≤ 1048576 ∧ (0 ≤ r → ∀ j, i ≤ j → (h : j < T.length) → T[j].length ≤ 1048576) := by
  induction d with
  | zero =>
    intro k i a hi hd hk h0 h1
    obtain ⟨k, rfl⟩ : ∃ j, k = j + 1 := ⟨k - 1, by omega⟩
    simp only [laws_szInt64SS.l0]
    rw [if_neg (by omega)]
    exact ⟨a, rfl, h1, fun _ j hij hj => by omega⟩
  | succ d ih =>
    intro k i a hi hd hk h0 h1
    obtain ⟨k, rfl⟩ : ∃ j, k = j + 1 := ⟨k - 1, by omega⟩
    have hlt : i < T.length := by omega
    have hl := hr T[i] (List.getElem_mem hlt)
    simp only [laws_szInt64SS.l0]
    rw [if_pos (by omega), if_pos (by omega), rdL T i hlt]
    unfold laws_szInt64S.f
    rw [wrap_fit (by omega) (by omega)]
    by_cases hneg : a - (T[i].length : Int) < 0
    · rw [if_pos hneg]
      simp only [Option.bind_some]
      rw [if_pos (by decide)]
      exact ⟨-1, rfl, by decide, fun h => by omega⟩
    · rw [if_neg hneg]
      simp only [Option.bind_some]
      rw [if_neg hneg, up i (by omega)]
      obtain ⟨r, e, hr1, h⟩ := ih k (i + 1) (a - (T[i].length : Int)) (by omega) (by omega) (by omega) (by omega) (by omega)
      refine ⟨r, e, hr1, fun h0 j hij hj => ?_⟩
      rcases Nat.lt_or_ge i j with hlt' | hge
      · exact h h0 j hlt' hj
      · obtain rfl : i = j := by omega
        omega

theorem szMesh_f (Pl : List S122) (T : List (List Int)) (hP : Pl.length ≤ 9223372036854775807) (hT : T.length ≤ 9223372036854775807) (hr : ∀ t ∈ T, t.length ≤ 9223372036854775807) (k : Nat) (hk : 1048577 < k) (a : Int) (ha : 0 ≤ a) (ha1 : a ≤ 1048576) :
    ∃ r, laws_szMesh.f k Pl T a = some r ∧ r ≤ 1048576 ∧ (0 ≤ r → Pl.length ≤ 1048576 ∧ T.length ≤ 1048576 ∧ ∀ t ∈ T, t.length ≤ 1048576) := by
  unfold laws_szMesh.f laws_szVectorS.f
  rw [wrap_fit (by omega) (by omega)]
  by_cases h1 : a - (Pl.length : Int) < 0
  · rw [if_pos h1]
    simp only [Option.bind_some]
    rw [if_pos (by decide)]
    exact ⟨-1, rfl, by decide, fun h => by omega⟩
  · rw [if_neg h1]
    simp only [Option.bind_some]
    rw [if_neg h1]
    unfold laws_szInt64SS.f
    rw [wrap_fit (by omega) (by omega)]
    by_cases h2 : a - (Pl.length : Int) - (T.length : Int) < 0
    · rw [if_pos h2]
      simp only [Option.bind_some]
      rw [if_pos (by decide)]
      exact ⟨-1, rfl, by decide, fun h => by omega⟩
    · rw [if_neg h2]
      obtain ⟨r, e, hr1, h⟩ := sz_loop T hr (by omega) T.length k 0 _ (by omega) (by omega) (by omega) (Int.not_lt.1 h2) (by omega)
      rw [show ((0 : Nat) : Int) = 0 from rfl] at e
      rw [e]
      simp only [Option.bind_some]
      by_cases h3 : r < 0
      · rw [if_pos h3]
        exact ⟨-1, rfl, by decide, fun h => by omega⟩
      · rw [if_neg h3]
        refine ⟨r, rfl, hr1, fun h0 => ⟨by omega, by omega, fun t ht => ?_⟩⟩
        obtain ⟨j, hj, rfl⟩ := List.getElem_of_mem ht
        exact h h0 j (by omega) hj

/-! copies -/
def toV (x : S122) : S42 := ⟨x.f0, x.f1, x.f2⟩

theorem toI_loop (l : List Int) (hl : l.length ≤ 1048576) (d : Nat) : ∀ (k i : Nat) (out : List Int), i ≤ l.length → l.length - i = d → d < k → out.length = l.length → (∀ j, j < i → out[j]? = l[j]?) → laws_toInt64S.l0 k l out (i : Int) = some l := by
  induction d with
  | zero =>
    intro k i out hi hd hk ho hj
    obtain ⟨k, rfl⟩ : ∃ j, k = j + 1 := ⟨k - 1, by omega⟩
    simp only [laws_toInt64S.l0]
    rw [if_neg (by omega)]
    congr 1
    apply List.ext_getElem?
    intro j
    rcases Nat.lt_or_ge j i with h | h
    · exact hj j h
    · rw [List.getElem?_eq_none (by omega), List.getElem?_eq_none (by omega)]
  | succ d ih =>
    intro k i out hi hd hk ho hj
    obtain ⟨k, rfl⟩ : ∃ j, k = j + 1 := ⟨k - 1, by omega⟩
    have hil : i < l.length := by omega
    simp only [laws_toInt64S.l0]
    rw [if_pos (by omega), if_pos (by omega), if_pos (by omega), rdI l i hil, up i (by omega), Int.toNat_natCast]
    refine ih k (i + 1) _ (by omega) (by omega) (by omega) (by rw [List.length_set]; exact ho) (fun j hji => ?_)
    by_cases e : j = i
    · subst e; rw [List.getElem?_set_self (by omega), List.getElem?_eq_getElem hil]
    · rw [List.getElem?_set_ne (by omega)]; exact hj j (by omega)

theorem toI_f (l : List Int) (hl : l.length ≤ 1048576) (k : Nat) (hk : 1048577 < k) : laws_toInt64S.f k l = some l := by
  unfold laws_toInt64S.f
  rw [if_pos (by omega), Int.toNat_natCast, if_pos (by omega)]
  exact toI_loop l hl l.length k 0 _ (by omega) (by omega) (by omega) (by simp) (fun j hj => absurd hj (Nat.not_lt_zero _))

theorem toT_loop (T : List (List Int)) (hl : T.length ≤ 1048576) (hr : ∀ t ∈ T, t.length ≤ 1048576) (d : Nat) : ∀ (k i : Nat) (out : List (List Int)), i ≤ T.length → T.length - i = d → d + 1048578 < k → out.length = T.length → (∀ j, j < i → out[j]? = T[j]?) → laws_toInt64SS.l0 k T out (i : Int) = some T := by
  induction d with
  | zero =>
    intro k i out hi hd hk ho hj
    obtain ⟨k, rfl⟩ : ∃ j, k = j + 1 := ⟨k - 1, by omega⟩
    simp only [laws_toInt64SS.l0]
    rw [if_neg (by omega)]
    congr 1
    apply List.ext_getElem?
    intro j
    rcases Nat.lt_or_ge j i with h | h
    · exact hj j h
    · rw [List.getElem?_eq_none (by omega), List.getElem?_eq_none (by omega)]
  | succ d ih =>
    intro k i out hi hd hk ho hj
    obtain ⟨k, rfl⟩ : ∃ j, k = j + 1 := ⟨k - 1, by omega⟩
    have hil : i < T.length := by omega
    simp only [laws_toInt64SS.l0]
    rw [if_pos (by omega), if_pos (by omega), rdL T i hil, toI_f _ (hr _ (List.getElem_mem hil)) k (by omega)]
    simp only [Option.bind_some]
    rw [if_pos (by omega), up i (by omega), Int.toNat_natCast]
    refine ih k (i + 1) _ (by omega) (by omega) (by omega) (by rw [List.length_set]; exact ho) (fun j hji => ?_)
    by_cases e : j = i
    · subst e; rw [List.getElem?_set_self (by omega), List.getElem?_eq_getElem hil]
    · rw [List.getElem?_set_ne (by omega)]; exact hj j (by omega)

theorem toP_loop (L : List S122) (hl : L.length ≤ 1048576) (d : Nat) : ∀ (k i : Nat) (out : List S42), i ≤ L.length → L.length - i = d → d < k → out.length = L.length → (∀ j, j < i → out[j]? = (L.map toV)[j]?) → laws_toVectorS.l0 k L out (i : Int) = some (L.map toV) := by
  induction d with
  | zero =>
    intro k i out hi hd hk ho hj
    obtain ⟨k, rfl⟩ : ∃ j, k = j + 1 := ⟨k - 1, by omega⟩
    simp only [laws_toVectorS.l0]
    rw [if_neg (by omega)]
    congr 1
    apply List.ext_getElem?
    intro j
    rcases Nat.lt_or_ge j i with h | h
    · exact hj j h
    · rw [List.getElem?_eq_none (by omega), List.getElem?_eq_none (by rw [List.length_map]; omega)]
  | succ d ih =>
    intro k i out hi hd hk ho hj
    obtain ⟨k, rfl⟩ : ∃ j, k = j + 1 := ⟨k - 1, by omega⟩
    have hil : i < L.length := by omega
    simp only [laws_toVectorS.l0]
    rw [if_pos (by omega), if_pos (by omega), rdW L i hil]
    unfold laws_toVector.f
    simp only [Option.bind_some]
    rw [if_pos (by omega), up i (by omega), Int.toNat_natCast]
    refine ih k (i + 1) _ (by omega) (by omega) (by omega) (by rw [List.length_set]; exact ho) (fun j hji => ?_)
    by_cases e : j = i
    · subst e; rw [List.getElem?_set_self (by omega), List.getElem?_map, List.getElem?_eq_getElem hil]; rfl
    · rw [List.getElem?_set_ne (by omega)]; exact hj j (by omega)

theorem toMesh_f (L : List S122) (T : List (List Int)) (hL : L.length ≤ 1048576) (hT : T.length ≤ 1048576) (hr : ∀ t ∈ T, t.length ≤ 1048576) (k : Nat) (hk : 2097155 < k) : laws_toMesh.f k L T = some (L.map toV, T) := by
  unfold laws_toMesh.f laws_toVectorS.f
  rw [if_pos (by omega), Int.toNat_natCast, if_pos (by omega)]
  have h1 := toP_loop L hL L.length k 0 (List.replicate L.length z42) (by omega) (by omega) (by omega) (by simp) (fun j hj => absurd hj (Nat.not_lt_zero _))
  rw [show ((0 : Nat) : Int) = 0 from rfl] at h1
  rw [h1]
  simp only [Option.bind_some]
  unfold laws_toInt64SS.f
  rw [if_pos (by omega), Int.toNat_natCast, if_pos (by omega)]
  have h2 := toT_loop T hT hr T.length k 0 (List.replicate T.length []) (by omega) (by omega) (by omega) (by simp) (fun j hj => absurd hj (Nat.not_lt_zero _))
  rw [show ((0 : Nat) : Int) = 0 from rfl] at h2
  rw [h2]
  rfl

/-! equal meshes -/
/-- A vector of floats below 2^32. -/
def okV (x : S42) : Prop := x.f0 < 4294967296 ∧ x.f1 < 4294967296 ∧ x.f2 < 4294967296
/-- Vectors with the same values. -/
def simV (x y : S42) : Prop := simF x.f0 y.f0 = true ∧ simF x.f1 y.f1 = true ∧ simF x.f2 y.f2 = true
theorem simV_self {x : S42} (h : okV x) : simV x x := ⟨simF_self h.1, simF_self h.2.1, simF_self h.2.2⟩
def simP (a b : List S42) : Prop := a.length = b.length ∧ ∀ (i : Nat) (ha : i < a.length) (hb : i < b.length), simV a[i] b[i]
theorem simP_self {a : List S42} (h : ∀ x ∈ a, okV x) : simP a a := ⟨rfl, fun i ha _ => simV_self (h _ (List.getElem_mem ha))⟩

theorem eqV_loop (a b : List S42) (hl : a.length ≤ 1048576) (h : simP a b) (d : Nat) : ∀ (k i : Nat), i ≤ a.length → a.length - i = d → d < k → laws_eqVectorS.l0 k a b (i : Int) = some true := by
  have hab := h.1
  induction d with
  | zero =>
    intro k i hi hd hk
    obtain ⟨k, rfl⟩ : ∃ j, k = j + 1 := ⟨k - 1, by omega⟩
    simp only [laws_eqVectorS.l0]
    rw [if_neg (by omega)]
  | succ d ih =>
    intro k i hi hd hk
    obtain ⟨k, rfl⟩ : ∃ j, k = j + 1 := ⟨k - 1, by omega⟩
    have hia : i < a.length := by omega
    have hib : i < b.length := by omega
    simp only [laws_eqVectorS.l0]
    rw [if_pos (by omega), if_pos (by omega), if_pos (by omega), rdV a i hia, rdV b i hib]
    unfold laws_eqVector.f
    have hs := h.2 i hia hib
    unfold simV at hs
    rw [if_pos hs]
    simp only [Option.bind_some]
    rw [if_pos trivial, up i (by omega)]
    exact ih k (i + 1) (by omega) (by omega) (by omega)

theorem eqI_loop (l : List Int) (hl : l.length ≤ 1048576) (d : Nat) : ∀ (k i : Nat), i ≤ l.length → l.length - i = d → d < k → laws_eqInt64S.l0 k l l (i : Int) = some true := by
  induction d with
  | zero =>
    intro k i hi hd hk
    obtain ⟨k, rfl⟩ : ∃ j, k = j + 1 := ⟨k - 1, by omega⟩
    simp only [laws_eqInt64S.l0]
    rw [if_neg (by omega)]
  | succ d ih =>
    intro k i hi hd hk
    obtain ⟨k, rfl⟩ : ∃ j, k = j + 1 := ⟨k - 1, by omega⟩
    simp only [laws_eqInt64S.l0]
    rw [if_pos (by omega), if_pos (by omega), if_pos (by omega), if_pos trivial, up i (by omega)]
    exact ih k (i + 1) (by omega) (by omega) (by omega)

theorem eqI_f (l : List Int) (hl : l.length ≤ 1048576) (k : Nat) (hk : 1048577 < k) : laws_eqInt64S.f k l l = some true := by
  unfold laws_eqInt64S.f
  rw [if_pos rfl]
  exact eqI_loop l hl l.length k 0 (by omega) (by omega) (by omega)

theorem eqT_loop (T : List (List Int)) (hl : T.length ≤ 1048576) (hr : ∀ t ∈ T, t.length ≤ 1048576) (d : Nat) : ∀ (k i : Nat), i ≤ T.length → T.length - i = d → d + 1048578 < k → laws_eqInt64SS.l0 k T T (i : Int) = some true := by
  induction d with
  | zero =>
    intro k i hi hd hk
    obtain ⟨k, rfl⟩ : ∃ j, k = j + 1 := ⟨k - 1, by omega⟩
    simp only [laws_eqInt64SS.l0]
    rw [if_neg (by omega)]
  | succ d ih =>
    intro k i hi hd hk
    obtain ⟨k, rfl⟩ : ∃ j, k = j + 1 := ⟨k - 1, by omega⟩
    have hil : i < T.length := by omega
    simp only [laws_eqInt64SS.l0]
    rw [if_pos (by omega), if_pos (by omega), if_pos (by omega), rdL T i hil, eqI_f _ (hr _ (List.getElem_mem hil)) k (by omega)]
    simp only [Option.bind_some]
    rw [if_pos trivial, up i (by omega)]
    exact ih k (i + 1) (by omega) (by omega) (by omega)

theorem eqMesh_f (a b : List S42) (T : List (List Int)) (h : simP a b) (hL : a.length ≤ 1048576) (hT : T.length ≤ 1048576) (hr : ∀ t ∈ T, t.length ≤ 1048576) (k : Nat) (hk : 2097155 < k) : laws_eqMesh.f k a T b T = some true := by
  unfold laws_eqMesh.f laws_eqVectorS.f
  have hab := h.1
  have h1 := eqV_loop a b hL h a.length k 0 (by omega) (by omega) (by omega)
  have h2 := eqT_loop T hT hr T.length k 0 (by omega) (by omega) (by omega)
  rw [show ((0 : Nat) : Int) = 0 from rfl] at h1 h2
  rw [if_pos (by omega), h1]
  simp only [Option.bind_some]
  rw [if_pos trivial]
  unfold laws_eqInt64SS.f
  rw [if_pos rfl, h2]
  rfl

/-! valid meshes -/
def inB (n : Nat) (p : Int) : Bool := decide (0 ≤ p ∧ p < (n : Int))
/-- A triangle of n places. -/
def triB (n : Nat) (t : List Int) : Bool := match t with
  | [a, b, c] => decide (a ≠ b) && decide (b ≠ c) && decide (a ≠ c) && inB n a && inB n b && inB n c
  | _ => false
def validB (n : Nat) (T : List (List Int)) : Bool := decide (n ≤ 64) && decide (T.length ≤ 128) && T.all (triB n)

theorem in_f (n : Nat) (hn : n ≤ 64) (p : Int) : spec_l00In.f p 0 (wrap64 ((n : Int) - 1)) = some (inB n p) := by
  unfold spec_l00In.f inB
  rw [wrap_fit (by omega) (by omega)]
  by_cases h : p ≥ 0
  · rw [if_pos h]; congr 1; rw [decide_eq_decide]; omega
  · rw [if_neg h]; congr 1; symm; rw [decide_eq_false_iff_not]; omega
theorem within_f (n : Nat) (hn : n ≤ 64) (p : Int) : impl_within.f p 0 (wrap64 ((n : Int) - 1)) = some (inB n p) := in_f n hn p

theorem tri3 {t : List Int} (h : t.length = 3) : ∃ a b c, t = [a, b, c] := by
  match t, h with
  | [a, b, c], _ => exact ⟨a, b, c, rfl⟩
theorem triB_len {n : Nat} {t : List Int} (h : triB n t = true) : t.length = 3 := by
  unfold triB at h
  split at h
  · rfl
  · cases h
theorem triB_not {n : Nat} {t : List Int} (h : ¬ t.length = 3) : triB n t = false := by
  cases e : triB n t
  · rfl
  · exact absurd (triB_len e) h

theorem rd3_0 (a b c : Int) : rd [a, b, c] 0 = a := rfl
theorem rd3_1 (a b c : Int) : rd [a, b, c] 1 = b := rfl
theorem rd3_2 (a b c : Int) : rd [a, b, c] 2 = c := rfl

theorem triB_rd (n : Nat) (t : List Int) (h : t.length = 3) : triB n t = (decide (rd t 0 ≠ rd t 1) && decide (rd t 1 ≠ rd t 2) && decide (rd t 0 ≠ rd t 2) && t.all (inB n)) := by
  obtain ⟨a, b, c, rfl⟩ := tri3 h
  rw [rd3_0, rd3_1, rd3_2]
  simp only [triB, List.all_cons, List.all_nil, Bool.and_true, Bool.and_assoc]

theorem triangle_f (n : Nat) (hn : n ≤ 64) (t : List Int) (k : Nat) (hk : 1 < k) : spec_l02Triangle.f k t (n : Int) = some (triB n t) := by
  obtain ⟨k, rfl⟩ : ∃ j, k = j + 1 := ⟨k - 1, by omega⟩
  unfold spec_l02Triangle.f
  by_cases h3 : t.length = 3
  · obtain ⟨a, b, c, rfl⟩ := tri3 h3
    simp only [spec_l02Triangle.j0, rd3_0, rd3_1, rd3_2, in_f n hn, Option.bind_some]
    simp only [triB, List.length_cons, List.length_nil]
    by_cases e1 : a = b <;> by_cases e2 : b = c <;> by_cases e3 : a = c <;> by_cases i1 : inB n a = true <;> by_cases i2 : inB n b = true <;> simp_all
  · rw [if_neg (by omega)]
    simp only [spec_l02Triangle.j0]
    rw [if_pos trivial, triB_not h3]

theorem is_loop (Q : List S42) (T : List (List Int)) (hn : Q.length ≤ 64) (hT : T.length ≤ 128) (d : Nat) : ∀ (k i : Nat), i ≤ T.length → T.length - i = d → d + 2 < k → spec_l02Is.l0 k (i : Int) Q T = some ((T.drop i).all (triB Q.length)) := by
  induction d with
  | zero =>
    intro k i hi hd hk
    obtain ⟨k, rfl⟩ : ∃ j, k = j + 1 := ⟨k - 1, by omega⟩
    simp only [spec_l02Is.l0]
    rw [if_neg (by omega), List.drop_of_length_le (by omega)]
    rfl
  | succ d ih =>
    intro k i hi hd hk
    obtain ⟨k, rfl⟩ : ∃ j, k = j + 1 := ⟨k - 1, by omega⟩
    have hil : i < T.length := by omega
    have e : T.drop i = T[i] :: T.drop (i + 1) := List.drop_eq_getElem_cons hil
    simp only [spec_l02Is.l0]
    rw [if_pos (by omega), if_pos (by omega), rdL T i hil, triangle_f _ hn _ k (by omega), e, List.all_cons]
    simp only [Option.bind_some]
    by_cases h : triB Q.length T[i] = true
    · rw [if_pos h, up i (by omega), ih k (i + 1) (by omega) (by omega) (by omega), h]; rfl
    · rw [if_neg h, Bool.eq_false_iff.2 h]; rfl

theorem is_f (Q : List S42) (T : List (List Int)) (k : Nat) (hk : 200 < k) : spec_l02Is.f k Q T = some (validB Q.length T) := by
  obtain ⟨k, rfl⟩ : ∃ j, k = j + 1 := ⟨k - 1, by omega⟩
  unfold spec_l02Is.f validB
  by_cases h1 : Q.length ≤ 64
  · rw [if_neg (by omega)]
    simp only [spec_l02Is.j0]
    by_cases h2 : T.length ≤ 128
    · rw [if_neg (by simp; omega)]
      have := is_loop Q T h1 h2 T.length k 0 (by omega) (by omega) (by omega)
      rw [show ((0 : Nat) : Int) = 0 from rfl] at this
      rw [this]
      simp [h1, h2]
    · rw [if_pos (by simp; omega)]
      simp [h2]
  · rw [if_pos (by omega)]
    simp only [spec_l02Is.j0]
    rw [if_pos trivial]
    simp [h1]

theorem vm_inner (T : List (List Int)) (n : Nat) (hn : n ≤ 64) (i : Nat) (t : List Int) (ht : t.length = 3) (d : Nat) : ∀ (k j : Nat), j ≤ 3 → 3 - j = d → d < k →
    ∃ k', k' + d + 1 = k ∧ impl_ValidMesh.l1 k (n : Int) T (T.length : Int) (i : Int) t (t.length : Int) (j : Int) = if (t.drop j).all (inB n) = true then impl_ValidMesh.l0 k' (n : Int) T (T.length : Int) (wrap64 ((i : Int) + 1)) else some false := by
  induction d with
  | zero =>
    intro k j hj hd hk
    obtain ⟨k, rfl⟩ : ∃ j, k = j + 1 := ⟨k - 1, by omega⟩
    refine ⟨k, by omega, ?_⟩
    simp only [impl_ValidMesh.l1]
    rw [if_neg (by omega), List.drop_of_length_le (by omega)]
    rfl
  | succ d ih =>
    intro k j hj hd hk
    obtain ⟨k, rfl⟩ : ∃ j, k = j + 1 := ⟨k - 1, by omega⟩
    have hjl : j < t.length := by omega
    obtain ⟨k', hk', h⟩ := ih k (j + 1) (by omega) (by omega) (by omega)
    refine ⟨k', by omega, ?_⟩
    have e : t.drop j = t[j] :: t.drop (j + 1) := List.drop_eq_getElem_cons hjl
    simp only [impl_ValidMesh.l1]
    rw [if_pos (by omega), if_pos (by omega), if_pos (by omega), rdI t j hjl, within_f n hn, e, List.all_cons]
    simp only [Option.bind_some]
    by_cases hb : inB n t[j] = true
    · rw [if_pos hb, up j (by omega), h, hb, Bool.true_and]
    · rw [if_neg hb, if_neg (by simp [hb])]

theorem vm_loop (n : Nat) (hn : n ≤ 64) (T : List (List Int)) (hT : T.length ≤ 128) (d : Nat) : ∀ (k i : Nat), i ≤ T.length → T.length - i = d → 10 * d + 5 < k → impl_ValidMesh.l0 k (n : Int) T (T.length : Int) (i : Int) = some ((T.drop i).all (triB n)) := by
  induction d with
  | zero =>
    intro k i hi hd hk
    obtain ⟨k, rfl⟩ : ∃ j, k = j + 1 := ⟨k - 1, by omega⟩
    simp only [impl_ValidMesh.l0]
    rw [if_neg (by omega), List.drop_of_length_le (by omega)]
    rfl
  | succ d ih =>
    intro k i hi hd hk
    obtain ⟨k, rfl⟩ : ∃ j, k = j + 2 := ⟨k - 2, by omega⟩
    have hil : i < T.length := by omega
    have e : T.drop i = T[i] :: T.drop (i + 1) := List.drop_eq_getElem_cons hil
    simp only [impl_ValidMesh.l0]
    rw [if_pos (by omega), if_pos (by omega), if_pos (by omega), rdL T i hil, e, List.all_cons]
    by_cases h3 : T[i].length = 3
    · rw [if_pos (by omega), if_pos (by omega), if_pos (by omega)]
      obtain ⟨k', hk', h1⟩ := vm_inner T n hn i T[i] h3 3 k 0 (by omega) (by omega) (by omega)
      have h0 := ih k' (i + 1) (by omega) (by omega) (by omega)
      rw [up i (by omega), h0, List.drop_zero] at h1
      rw [triB_rd n _ h3]
      generalize T[i] = t at *
      have h1' : impl_ValidMesh.l1 k (n : Int) T (T.length : Int) (i : Int) t (t.length : Int) 0 = if t.all (inB n) = true then some ((T.drop (i + 1)).all (triB n)) else some false := h1
      by_cases e1 : rd t 0 = rd t 1
      · rw [if_pos e1]
        simp [impl_ValidMesh.j2, e1]
      · rw [if_neg e1, if_pos (by omega)]
        by_cases e2 : rd t 1 = rd t 2
        · rw [if_pos e2]
          simp [impl_ValidMesh.j2, e2]
        · rw [if_neg e2]
          simp only [impl_ValidMesh.j2]
          by_cases e3 : rd t 0 = rd t 2
          · rw [if_pos (by simp [e3])]
            simp [e3]
          · rw [if_neg (by simp [e3]), h1']
            cases t.all (inB n) <;> simp [e1, e2, e3]
    · rw [if_neg (by omega)]
      simp only [impl_ValidMesh.j2]
      rw [if_pos trivial, triB_not h3]; rfl

theorem valid_f (Q : List S42) (T : List (List Int)) (k : Nat) (hk : 2000 < k) : impl_ValidMesh.f k Q T = some (validB Q.length T) := by
  obtain ⟨k, rfl⟩ : ∃ j, k = j + 1 := ⟨k - 1, by omega⟩
  unfold impl_ValidMesh.f validB
  by_cases h1 : Q.length ≤ 64
  · rw [if_neg (by omega)]
    simp only [impl_ValidMesh.j0]
    by_cases h2 : T.length ≤ 128
    · rw [if_neg (by simp; omega)]
      have := vm_loop Q.length h1 T h2 T.length k 0 (by omega) (by omega) (by omega)
      rw [show ((0 : Nat) : Int) = 0 from rfl] at this
      rw [this]
      simp [h1, h2]
    · rw [if_pos (by simp; omega)]
      simp [h2]
  · rw [if_pos (by omega)]
    simp only [impl_ValidMesh.j0]
    rw [if_pos trivial]
    simp [h1]
end Go.Proofs.Ytepilofcionekaa.Msh
namespace Go.Proofs.Ytepilofcionekaa
open Go.RowKit Go.Proofs.YtepilofcionekaaW.PrintWords Go.Proofs.Ytepilofcionekaa.PMesh Msh
set_option linter.unusedVariables false

/-- a, a + 1, .. -/
def marksA (a : Int) (n : Nat) : List Int := (List.range n).map fun t : Nat => a + (t : Int)
theorem marksA_len (a : Int) (n : Nat) : (marksA a n).length = n := by simp [marksA]
theorem marksA_get (a : Int) (n i : Nat) (h : i < (marksA a n).length) : (marksA a n)[i] = a + (i : Int) := by simp [marksA]

/-- The first i marked. -/
def partA (a : Int) (l : List Int) (i : Nat) : List Int := marksA a i ++ l.drop i
theorem partA_len (a : Int) (l : List Int) (i : Nat) (h : i ≤ l.length) : (partA a l i).length = l.length := by simp [partA, marksA]; omega
theorem partA_all (a : Int) (l : List Int) : partA a l l.length = marksA a l.length := by simp [partA]
theorem partA_set (a : Int) (l : List Int) (i : Nat) (h : i < l.length) : (partA a l i).set i (a + (i : Int)) = partA a l (i + 1) := by
  have e1 : marksA a (i + 1) = marksA a i ++ [a + (i : Int)] := by simp [marksA, List.range_succ]
  have e2 : l.drop i = l[i] :: l.drop (i + 1) := List.drop_eq_getElem_cons h
  have hm : (marksA a i).length = i := marksA_len a i
  unfold partA
  rw [e1, e2, List.set_append, if_neg (by omega), hm, Nat.sub_self, List.set_cons_zero, List.append_assoc]
  rfl

theorem mark_ints (v : Value) (l : List Int) (hl : l.length ≤ 1048576) (a : Int) (ha : 0 ≤ a) (ha1 : a ≤ 1152921504606846976) (w : World) (base : Nat) (h : w.ownsRow base 2 1 v l.length (encs (Value.int .i64) l)) :
    Calls Try.prog 31 #[v, .int .i64 a] w fun e w' => e = .returned (.int .i64 (a + (l.length : Int))) ∧ w'.ownsRow base 2 1 v l.length (encs (Value.int .i64) (marksA a l.length)) ∧ w.grownBy w' v.ownBlock := by
  by_cases h0 : l.length = 0
  · obtain rfl : l = [] := List.length_eq_zero_iff.1 h0
    obtain ⟨A, c, rfl⟩ := own_slice h
    have HO := Lib.hid h
    clear h h0 hl
    show Calls Try.prog 31 #[.slice A 0 c, .int .i64 a] w _
    go_enter Try.func31, Try.ntmps31
    go_wp2_with fail
    go_loopw [1, 5] (fun k i wr => wr = w ∧ k = .int .i64 a ∧ i = .int .i64 0) (fun _ _ _ => 0)
    case atStart => exact ⟨rfl, rfl, rfl⟩
    case round =>
      obtain ⟨rfl, rfl, rfl⟩ := hrel
      go_wp2_with fail
      go_ret
      exact ⟨by simp, HO.out, World.grownBy.refl _ _⟩
  · obtain ⟨g, c, rfl, hgb, hgl⟩ := h.form (by omega)
    have HO := Lib.hid h
    clear h
    go_enter Try.func31, Try.ntmps31
    go_wp2_with fail
    go_loopw [1, 5] (fun k i wr => ∃ j : Nat, j ≤ l.length ∧ k = .int .i64 (a + (j : Int)) ∧ i = .int .i64 (j : Int) ∧ Hid (wr.ownsRow base 2 1 (.slice (some ⟨g, 0, none⟩) l.length c) l.length (encs (Value.int .i64) (partA a l j))) ∧ w.grownBy wr (some g)) (fun _ i _ => l.length - (intOf i).toNat)
    case atStart => exact ⟨0, Nat.zero_le _, by simp, rfl, by exact HO.out, World.grownBy.refl _ _⟩
    case round =>
      obtain ⟨j, hj, rfl, rfl, hO, hg⟩ := hrel
      by_cases hlt : j < l.length
      · have b1 : (j : Int) < (l.length : Int) := by omega
        have b2 : (0 : Int) ≤ (j : Int) := by omega
        have b3 : (j : Int) < 1048576 := by omega
        obtain ⟨hcell, hfr⟩ := own_at_of (d := (0 : Int)) hO.out (j : Int) b2 b1
        obtain ⟨hst, hgs⟩ := own_store_of (enc := Value.int .i64) hO.out (j : Int) (a + (j : Int))
        rw [Int.toNat_natCast] at hcell hfr hst hgs
        rw [partA_set a l j hlt] at hst
        have HST := Lib.hid hst
        have HGS := Lib.hid hgs
        clear hst hgs
        go_wp2_with fail
        go_roundw
        case rel => exact ⟨j + 1, hlt, by first | rfl | (congr 1; omega) | (simp; omega), by simp, by exact HST.out, World.grownBy.trans hg HGS.out⟩
        case measure => simp [intOf]; omega
      · obtain rfl : j = l.length := by omega
        go_wp2_with fail
        go_ret
        refine ⟨rfl, ?_, hg⟩
        have := hO.out
        rw [partA_all] at this
        exact this

theorem held_loopA (a : Int) (ha : 0 ≤ a) (ha1 : a ≤ 1152921504606846976) (n : Nat) (hl : n ≤ 1048576) (d : Nat) : ∀ (k i : Nat), i ≤ n → n - i = d → d < k → laws_heldInt64S.l0 k (marksA a n) (a + (i : Int)) (i : Int) = some (a + (n : Int)) := by
  have hml := marksA_len a n
  induction d with
  | zero =>
    intro k i hi hd hk
    obtain ⟨k, rfl⟩ : ∃ j, k = j + 1 := ⟨k - 1, by omega⟩
    obtain rfl : i = n := by omega
    simp only [laws_heldInt64S.l0]
    rw [if_neg (by omega)]
  | succ d ih =>
    intro k i hi hd hk
    obtain ⟨k, rfl⟩ : ∃ j, k = j + 1 := ⟨k - 1, by omega⟩
    simp only [laws_heldInt64S.l0]
    rw [if_pos (by omega), if_pos (by omega), rdI _ i (by omega), marksA_get, if_pos (by omega), Msh.wrap_fit (by omega) (by omega), up i (by omega), show a + (i : Int) + 1 = a + ((i + 1 : Nat) : Int) by omega]
    exact ih k (i + 1) (by omega) (by omega) (by omega)

theorem held_fA (a : Int) (ha : 0 ≤ a) (ha1 : a ≤ 1152921504606846976) (n : Nat) (hl : n ≤ 1048576) : laws_heldInt64S.f 1048577 (marksA a n) a = some (a + (n : Int)) := by
  unfold laws_heldInt64S.f
  have := held_loopA a ha ha1 n hl n 1048577 0 (by omega) (by omega) (by omega)
  rw [show a + ((0 : Nat) : Int) = a by omega] at this
  exact this

/-- Blocks from a up to b. -/
def In (a b : Nat) (k : Nat) : Prop := a ≤ k ∧ k < b

/-- What was made from base on lies from base up to the world's size. -/
theorem R_in {α : Type} {d : Kd α} {e base : Nat} {w : World} {v : Value} {xs : List α} {ok : Nat → Prop} (h : d.R e w base ok v xs) : d.R e w base (In base w.heap.size) v xs := Kd.R_mono (Kd.R_bound h) (fun k hk => ⟨hk.2.1, hk.2.2.1⟩)
theorem S_in {α : Type} {d : Kd α} {e base : Nat} {w : World} {v : Value} {xs : List α} {ok : Nat → Prop} (h : Kd.S d e w base ok v xs) : Kd.S d e w base (In base w.heap.size) v xs := Kd.S_mono (Kd.S_bound h) (fun k hk => ⟨hk.2.1, hk.2.2.1⟩)

theorem In_off {a b c d : Nat} (h : b ≤ c ∨ d ≤ a) : ∀ k, In a b k → ¬ In c d k := fun k h1 h2 => by unfold In at h1 h2; omega

/-- A grown row of the range: what is not in the range stays. -/
theorem kept_grown {w w' : World} {a b : Nat} {row : Option Nat} (h : w.grownBy w' row) (hr : ∀ k, row = some k → In a b k) : Kept w w' (In a b) := ⟨h.size, fun i hi hn => h.block i hi (fun e => hn (hr i e.symm))⟩
end Go.Proofs.Ytepilofcionekaa
namespace Go.Proofs.Ytepilofcionekaa
open Go.RowKit Go.Proofs.YtepilofcionekaaW.PrintWords Go.Proofs.Ytepilofcionekaa.PMesh Msh
set_option linter.unusedVariables false

/-- How many numbers rows hold. -/
def tot : List (List Int) → Nat
  | [] => 0
  | t :: r => t.length + tot r
/-- Rows marked, from a on. -/
def marksT (a : Int) : List (List Int) → List (List Int)
  | [] => []
  | t :: r => marksA a t.length :: marksT (a + (t.length : Int)) r

theorem tot_append (x y : List (List Int)) : tot (x ++ y) = tot x + tot y := by
  induction x with
  | nil => simp [tot]
  | cons t r ih => simp [tot, ih]; omega
theorem marksT_append (x y : List (List Int)) : ∀ a, marksT a (x ++ y) = marksT a x ++ marksT (a + (tot x : Int)) y := by
  induction x with
  | nil => intro a; simp [tot, marksT]
  | cons t r ih =>
    intro a
    simp only [List.cons_append, marksT, tot, ih]
    congr 3
    omega
theorem marksT_len (x : List (List Int)) : ∀ a, (marksT a x).length = x.length := by
  induction x with
  | nil => intro a; rfl
  | cons t r ih => intro a; simp [marksT, ih]
theorem tot_le (T : List (List Int)) (hr : ∀ t ∈ T, t.length ≤ 1048576) : tot T ≤ T.length * 1048576 := by
  induction T with
  | nil => simp [tot]
  | cons t r ih =>
    have h1 := hr t List.mem_cons_self
    have h2 := ih (fun x hx => hr x (List.mem_cons_of_mem _ hx))
    simp only [tot, List.length_cons]
    omega
theorem tot_take (T : List (List Int)) (j : Nat) : tot (T.take j) ≤ tot T := by
  have := tot_append (T.take j) (T.drop j)
  rw [List.take_append_drop] at this
  omega

/-- The first j rows marked. -/
def partT (a : Int) (T : List (List Int)) (j : Nat) : List (List Int) := marksT a (T.take j) ++ T.drop j
theorem partT_zero (a : Int) (T : List (List Int)) : partT a T 0 = T := by simp [partT, marksT]
theorem partT_all (a : Int) (T : List (List Int)) : partT a T T.length = marksT a T := by simp [partT]
theorem partT_len (a : Int) (T : List (List Int)) (j : Nat) (h : j ≤ T.length) : (partT a T j).length = T.length := by simp [partT, marksT_len]; omega
theorem partT_get (a : Int) (T : List (List Int)) (j : Nat) (h : j < T.length) : (partT a T j).getD j [] = T[j] := by
  have hl : (marksT a (T.take j)).length = j := by rw [marksT_len, List.length_take]; omega
  unfold partT
  rw [List.getD_eq_getElem?_getD, List.getElem?_append_right (by omega), hl, Nat.sub_self, List.drop_eq_getElem_cons h]
  rfl
theorem partT_set (a : Int) (T : List (List Int)) (j : Nat) (h : j < T.length) : (partT a T j).set j (marksA (a + (tot (T.take j) : Int)) T[j].length) = partT a T (j + 1) := by
  have hl : (marksT a (T.take j)).length = j := by rw [marksT_len, List.length_take]; omega
  have e2 : T.drop j = T[j] :: T.drop (j + 1) := List.drop_eq_getElem_cons h
  unfold partT
  rw [List.take_succ_eq_append_getElem h, marksT_append, e2, List.set_append, if_neg (by omega), hl, Nat.sub_self, List.set_cons_zero, List.append_assoc]
  rfl
theorem tot_succ (T : List (List Int)) (j : Nat) (h : j < T.length) : tot (T.take (j + 1)) = tot (T.take j) + T[j].length := by
  rw [List.take_succ_eq_append_getElem h, tot_append]
  simp [tot]

set_option maxHeartbeats 1000000 in
set_option maxRecDepth 100000 in
theorem mark_rows (v : Value) (T : List (List Int)) (hT : T.length ≤ 1048576) (hr : ∀ t ∈ T, t.length ≤ 1048576) (a : Int) (ha : 0 ≤ a) (ha1 : a ≤ 17592186044416) (w : World) (base : Nat) (ok : Nat → Prop) (b0 : Nat) (w0 : World) (K : Below b0 w0 w) (hb0 : b0 ≤ base) (hbw : b0 ≤ w.heap.size)
    (h : Kd.S (Kd.slice 2 (Kd.int .i64)) 56 w base ok v T) :
    Calls Try.prog 64 #[v, .int .i64 a] w fun e w' => e = .returned (.int .i64 (a + (tot T : Int))) ∧ Kd.S (Kd.slice 2 (Kd.int .i64)) 56 w' base ok v (marksT a T) ∧ Kept w w' ok ∧ Below b0 w0 w' := by
  have htot := tot_le T hr
  have htot2 : T.length * 1048576 ≤ 1099511627776 := by omega
  by_cases h0 : T.length = 0
  · obtain rfl : T = [] := List.length_eq_zero_iff.1 h0
    obtain ⟨A, c, rfl⟩ := Kd.S_slice h
    have HS := Lib.hid h
    have HK := Lib.hid K
    clear h h0 hT hr K htot htot2
    show Calls Try.prog 64 #[.slice A 0 c, .int .i64 a] w _
    go_enter Try.func64, Try.ntmps64
    go_wp2_with fail
    go_loopw [1, 5] (fun k i wr => wr = w ∧ k = .int .i64 a ∧ i = .int .i64 0) (fun _ _ _ => 0)
    case atStart => exact ⟨rfl, rfl, rfl⟩
    case round =>
      obtain ⟨rfl, rfl, rfl⟩ := hrel
      go_wp2_with fail
      go_ret
      exact ⟨by simp [tot], HS.out, Kept.refl _ _, HK.out⟩
  · obtain ⟨g, c, rfl, hgb, hgl, _⟩ := Kd.S_form h (by omega)
    have HS := Lib.hid h
    have HK := Lib.hid K
    have HR := Lib.hid hr
    clear h K hr hgb hgl
    go_enter Try.func64, Try.ntmps64
    go_wp2_with fail
    go_loopw [1, 5] (fun k i wr => ∃ (j : Nat) (q : Int), j ≤ T.length ∧ k = .int .i64 q ∧ Hid (q = a + (tot (T.take j) : Int)) ∧ i = .int .i64 (j : Int) ∧ Hid (Kd.S (Kd.slice 2 (Kd.int .i64)) 56 wr base ok (.slice (some ⟨g, 0, none⟩) T.length c) (partT a T j)) ∧ Hid (Kept w wr ok) ∧ Hid (Below b0 w0 wr)) (fun _ i _ => T.length - (intOf i).toNat)
    case atStart => exact ⟨0, a, Nat.zero_le _, rfl, by exact Lib.hid (by simp [tot]), rfl, by rw [partT_zero]; exact HS, Lib.hid (Kept.refl _ _), HK⟩
    case round =>
      obtain ⟨j, q, hj, rfl, hq, rfl, hS, hKe, hB⟩ := hrel
      by_cases hlt : j < T.length
      · have b1 : (j : Int) < (T.length : Int) := by omega
        have b2 : (0 : Int) ≤ (j : Int) := by omega
        have b3 : (j : Int) < 1048576 := by omega
        obtain ⟨oki, cc, hcl, hM, hcc, hoki, hbk⟩ := Kd.S_borrow hS.out [] (j : Int) b2 (by omega)
        rw [Int.toNat_natCast, partT_get a T j hlt] at hM
        rw [Int.toNat_natCast] at hcc hbk
        obtain ⟨vi, rfl, hR⟩ := hM
        have hcell := hcc 0 _ rfl
        rw [show (Kd.slice 2 (Kd.int .i64)).sz = 1 from rfl, Nat.mul_one, Nat.add_zero, add_at, Nat.zero_add] at hcell
        obtain ⟨Ai, ci, rfl⟩ := Kd.R_slice hR
        have hlen := HR.out T[j] (List.getElem_mem hlt)
        have htk := tot_take T j
        have hq0 := hq.out
        have hqb : 0 ≤ q ∧ q ≤ 35184372088832 := by omega
        have hqs : q + (T[j].length : Int) = a + (tot (T.take (j + 1)) : Int) := by rw [tot_succ T j hlt]; omega
        have hstep : ∀ (w2 : World), w2.ownsRow base 2 1 (.slice Ai T[j].length ci) T[j].length (encs (Value.int .i64) (marksA q T[j].length)) → wr.grownBy w2 (Value.slice Ai T[j].length ci).ownBlock → Kd.S (Kd.slice 2 (Kd.int .i64)) 56 w2 base ok (.slice (some ⟨g, 0, none⟩) T.length c) (partT a T (j + 1)) ∧ Kept w w2 ok ∧ Below b0 w0 w2 := by
          intro w2 ho hg
          have hin : ∀ k, (Value.slice Ai T[j].length ci).ownBlock = some k → oki k := fun k hk => hR.1 k hk
          refine ⟨?_, Kept.of_grown hg hKe.out (fun k hk => .inl (hoki k (hin k hk)).1), Below.grown hB.out hg (Nat.le_trans hbw hKe.out.1) (fun k hk => Nat.le_trans hb0 (own_base (Kd.own_of_R hR) k hk))⟩
          have := hbk (x' := marksA q T[j].length) hg hin ⟨_, rfl, Kd.R_of_own (by rw [marksA_len]; exact ho) hin⟩
          rw [hq0, partT_set a T j hlt] at this
          exact this
        have HST := Lib.hid hstep
        have HRR := Lib.hid (Kd.own_of_R hR)
        have HQS := Lib.hid hqs
        have hl1 : T[j].length ≤ 1048576 := hlen
        clear hstep hR hcc hbk hq0 hqs hoki hcl hlen htk hq htot htot2 hT ha ha1
        obtain ⟨hq1, hq2⟩ := hqb
        generalize T[j] = t at *
        go_wp2_with (first | (go_at_call 31; refine (mark_ints _ t hl1 q hq1 (by omega) _ base HRR.out).mono ?_; rintro e w2 ⟨rfl, ho, hg⟩; have HN := Lib.hid (HST.out w2 ho hg); clear ho hg) | fail)
        go_roundw
        case rel => exact ⟨j + 1, q + (t.length : Int), hlt, rfl, HQS, by simp, Lib.hid HN.out.1, Lib.hid HN.out.2.1, Lib.hid HN.out.2.2⟩
        case measure => simp [intOf]; omega
      · obtain rfl : j = T.length := by omega
        have hfin := hS.out
        rw [partT_all] at hfin
        have hqf := hq.out
        rw [List.take_length] at hqf
        have HF := Lib.hid hfin
        have HQ := Lib.hid hqf
        clear hfin hqf hS hq
        go_wp2_with fail
        go_ret
        exact ⟨by rw [HQ.out]; rfl, HF.out, hKe.out, hB.out⟩

end Go.Proofs.Ytepilofcionekaa
namespace Go.Proofs.Ytepilofcionekaa.Msh
open Fl Go.RowKit Go.Proofs.YtepilofcionekaaW.PrintWords Go.Proofs.Ytepilofcionekaa.PMesh
set_option linter.unusedVariables false

/-- What is known of a mesh that comes in. -/
structure MeshOk (L : List S122) (T : List (List Int)) : Prop where
  lp : L.length ≤ 9223372036854775807
  lt : T.length ≤ 9223372036854775807
  lr : ∀ t ∈ T, t.length ≤ 9223372036854775807
  fl : ∀ x ∈ L, x.f0 < 4294967296 ∧ x.f1 < 4294967296 ∧ x.f2 < 4294967296

theorem map_ok {L : List S122} (h : ∀ x ∈ L, x.f0 < 4294967296 ∧ x.f1 < 4294967296 ∧ x.f2 < 4294967296) : ∀ x ∈ L.map toV, okV x := by
  intro x hx
  obtain ⟨y, hy, rfl⟩ := List.mem_map.1 hx
  exact h y hy

end Go.Proofs.Ytepilofcionekaa.Msh
namespace Go.Proofs.Ytepilofcionekaa
open Go.RowKit Go.Proofs.YtepilofcionekaaW.PrintWords Go.Proofs.Ytepilofcionekaa.PMesh Msh

end Go.Proofs.Ytepilofcionekaa
namespace Go.Proofs.Ytepilofcionekaa
open Go.RowKit Go.Proofs.YtepilofcionekaaW.PrintWords Go.Proofs.Ytepilofcionekaa.PMesh Msh
set_option linter.unusedVariables false

/-- A mesh of the call's own, its blocks from a up to b. -/
def OwnM (w : World) (a b : Nat) (vP vT : Value) (P : List S42) (T : List (List Int)) : Prop :=
  Kd.R k42 42 w a (In a b) vP P ∧ Kd.S (Kd.slice 2 (Kd.int .i64)) 56 w a (In a b) vT T
/-- A row of numbers of the call's own. -/
def OwnI (w : World) (a b : Nat) (v : Value) (l : List Int) : Prop := Kd.R (Kd.int .i64) 2 w a (In a b) v l
/-- A mesh that came in, as it can be read from w on. -/
def CameM (w : World) (A : Option Addr) (c : Nat) (L : List S122) (B : Option Addr) (e : Nat) (T : List (List Int)) : Prop :=
  Kd.C k122 w A L.length L ∧ L.length ≤ c ∧ Kd.C (Kd.slice 2 (Kd.int .i64)) w B T.length T ∧ T.length ≤ e

section
variable {w w' w0 : World} {a b c d b0 : Nat} {v vP vT : Value} {P : List S42} {T : List (List Int)} {l : List Int}
theorem OwnM.below (h : OwnM w a b vP vT P T) (hb : Below w.heap.size w w') : OwnM w' a b vP vT P T := ⟨Kd.R_below h.1 hb, Kd.S_below h.2 hb⟩
theorem OwnM.drawn (h : OwnM w a b vP vT P T) (hd : Drawn0 w w') : OwnM w' a b vP vT P T := h.below hd.below
theorem OwnM.kept (h : OwnM w a b vP vT P T) (hk : Kept w w' (In c d)) (ho : b ≤ c ∨ d ≤ a) : OwnM w' a b vP vT P T := ⟨Kd.R_kept h.1 hk (In_off ho), Kd.S_kept h.2 hk (In_off ho)⟩
theorem OwnI.below (h : OwnI w a b v l) (hb : Below w.heap.size w w') : OwnI w' a b v l := Kd.R_below h hb
theorem OwnI.drawn (h : OwnI w a b v l) (hd : Drawn0 w w') : OwnI w' a b v l := h.below hd.below
theorem OwnI.kept (h : OwnI w a b v l) (hk : Kept w w' (In c d)) (ho : b ≤ c ∨ d ≤ a) : OwnI w' a b v l := Kd.R_kept h hk (In_off ho)
theorem OwnM.C {A B : Option Addr} {n m e f : Nat} (h : OwnM w a b (.slice A n e) (.slice B m f) P T) : Kd.C k42 w A P.length P ∧ P.length ≤ e ∧ Kd.C (Kd.slice 2 (Kd.int .i64)) w B T.length T ∧ T.length ≤ f := by
  obtain ⟨h1, h2, h3⟩ := Kd.R_reads' h.1
  obtain ⟨h4, h5, h6⟩ := Kd.S_reads' h.2
  exact ⟨h3, by omega, h6, by omega⟩
theorem OwnI.C {A : Option Addr} {n e : Nat} (h : OwnI w a b (.slice A n e) l) : Kd.C (Kd.int .i64) w A l.length l ∧ l.length ≤ e := by
  obtain ⟨h1, h2, h3⟩ := Kd.R_reads' h
  exact ⟨h3, by omega⟩
theorem CameM.below {A B : Option Addr} {c e : Nat} {L : List S122} (h : CameM w A c L B e T) (hb : Below w.heap.size w w') : CameM w' A c L B e T := ⟨Kd.C_below h.1 hb, h.2.1, Kd.C_below h.2.2.1 hb, h.2.2.2⟩
theorem Drawn0.sized (h : Drawn0 w w') : w'.heap.size = w.heap.size := by obtain ⟨m, rfl⟩ := h; rfl
theorem below_then (h : Below b0 w0 w) (hb : Below w.heap.size w w') (hw : b0 ≤ w.heap.size) : Below b0 w0 w' := h.trans (hb.mono hw)
end

/-- A variable that holds a mesh: its block. -/
def BoxAt (W : World) (g : Nat) (t : TypeId) (u v : Value) : Prop := W.heap[g]? = some (.cells #[u, v] t (0, 0))
section
variable {W W' : World} {g c d : Nat} {t : TypeId} {u v : Value}
theorem BoxAt.below (h : BoxAt W g t u v) (hb : Below W.heap.size W W') : BoxAt W' g t u v := (hb.block g (blk_lt h)).trans h
theorem BoxAt.drawn (h : BoxAt W g t u v) (hd : Drawn0 W W') : BoxAt W' g t u v := h.below hd.below
theorem BoxAt.kept (h : BoxAt W g t u v) (hk : Kept W W' (In c d)) (ho : g < c ∨ d ≤ g) : BoxAt W' g t u v := blk_kept h hk (fun hi => by unfold In at hi; omega)
theorem BoxAt.new (W : World) (t : TypeId) (u v : Value) : BoxAt (W.alloc (.cells #[u, v] t)) W.heap.size t u v := heap_alloc_new W _
theorem BoxAt.c0 (h : BoxAt W g t u v) : W.cell? ⟨g, 0, none⟩ = some u := (blk_cell h 0).trans rfl
theorem BoxAt.c1 (h : BoxAt W g t u v) : W.cell? ⟨g, 1, none⟩ = some v := (blk_cell h 1).trans rfl
theorem BoxAt.lt (h : BoxAt W g t u v) : g < W.heap.size := blk_lt h
theorem keep4 {g1 g2 : Nat} {t1 t2 : TypeId} {u1 v1 u2 v2 : Value} {R : World → Prop} (hR : ∀ W W', R W → Below W.heap.size W W' → R W') (hb : Below W.heap.size W W')
    (h : W.cell? ⟨g1, 0, none⟩ = some u1 ∧ W.cell? ⟨g1, 1, none⟩ = some v1 ∧ W.cell? ⟨g2, 0, none⟩ = some u2 ∧ W.cell? ⟨g2, 1, none⟩ = some v2 ∧ BoxAt W g1 t1 u1 v1 ∧ BoxAt W g2 t2 u2 v2 ∧ R W) :
    W'.cell? ⟨g1, 0, none⟩ = some u1 ∧ W'.cell? ⟨g1, 1, none⟩ = some v1 ∧ W'.cell? ⟨g2, 0, none⟩ = some u2 ∧ W'.cell? ⟨g2, 1, none⟩ = some v2 ∧ BoxAt W' g1 t1 u1 v1 ∧ BoxAt W' g2 t2 u2 v2 ∧ R W' := by
  obtain ⟨_, _, _, _, b1, b2, r⟩ := h
  have c1 := b1.below hb
  have c2 := b2.below hb
  exact ⟨c1.c0, c1.c1, c2.c0, c2.c1, c1, c2, hR _ _ r hb⟩
theorem keep4d {g1 g2 : Nat} {t1 t2 : TypeId} {u1 v1 u2 v2 : Value} {R : World → Prop} (hR : ∀ W W', R W → Below W.heap.size W W' → R W')
    (h : W.cell? ⟨g1, 0, none⟩ = some u1 ∧ W.cell? ⟨g1, 1, none⟩ = some v1 ∧ W.cell? ⟨g2, 0, none⟩ = some u2 ∧ W.cell? ⟨g2, 1, none⟩ = some v2 ∧ BoxAt W g1 t1 u1 v1 ∧ BoxAt W g2 t2 u2 v2 ∧ R W) :
    W.drew.cell? ⟨g1, 0, none⟩ = some u1 ∧ W.drew.cell? ⟨g1, 1, none⟩ = some v1 ∧ W.drew.cell? ⟨g2, 0, none⟩ = some u2 ∧ W.drew.cell? ⟨g2, 1, none⟩ = some v2 ∧ BoxAt W.drew g1 t1 u1 v1 ∧ BoxAt W.drew g2 t2 u2 v2 ∧ R W.drew := keep4 hR (Below.drew (Below.refl _ _)) h
theorem rest4 {g1 g2 : Nat} {t1 t2 : TypeId} {u1 v1 u2 v2 : Value} {R : World → Prop}
    (h : W.cell? ⟨g1, 0, none⟩ = some u1 ∧ W.cell? ⟨g1, 1, none⟩ = some v1 ∧ W.cell? ⟨g2, 0, none⟩ = some u2 ∧ W.cell? ⟨g2, 1, none⟩ = some v2 ∧ BoxAt W g1 t1 u1 v1 ∧ BoxAt W g2 t2 u2 v2 ∧ R W) : R W := h.2.2.2.2.2.2
end

/-- Small meshes: what the laws' bound on sizes leaves. -/
def SmallM (L : List S122) (T : List (List Int)) : Prop := L.length ≤ 1048576 ∧ T.length ≤ 1048576 ∧ (∀ t ∈ T, t.length ≤ 1048576)

theorem sz_step (w W : World) (A : Option Addr) (c : Nat) (L : List S122) (B : Option Addr) (e : Nat) (T : List (List Int)) (h : CameM w A c L B e T) (ok : MeshOk L T) (a : Int) (ha : 0 ≤ a) (ha1 : a ≤ 1048576) :
    ∃ r : Int, (0 ≤ r → SmallM L T) ∧ r ≤ 1048576 ∧ ∀ W, Below w.heap.size w W → Calls Try.prog 24 #[.agg #[.slice A L.length c, .slice B T.length e], .int .i64 a] W fun e w' => e = .returned (.int .i64 r) ∧ Below W.heap.size W w' := by
  obtain ⟨r, hr, hr1, hs⟩ := szMesh_f L T ok.lp ok.lt ok.lr 1048578 (by omega) a ha ha1
  refine ⟨r, fun h0 => hs h0, hr1, fun W hb => ?_⟩
  have h' := h.below hb
  exact laws_szMesh.calls 1048578 A c L B e T a r W h'.1 h'.2.1 h'.2.2.1 h'.2.2.2 hr

theorem to_step (w : World) (A : Option Addr) (c : Nat) (L : List S122) (B : Option Addr) (e : Nat) (T : List (List Int)) (h : CameM w A c L B e T) (hs : SmallM L T) (P : List S42) (hP : P = L.map toV) :
    ∀ W, Below w.heap.size w W → Calls Try.prog 26 #[.agg #[.slice A L.length c, .slice B T.length e]] W fun E w' => ∃ A' c' B' e', E = .returned (.agg #[.slice A' P.length c', .slice B' T.length e']) ∧ OwnM w' W.heap.size w'.heap.size (.slice A' P.length c') (.slice B' T.length e') P T ∧ Below W.heap.size W w' ∧ Below w.heap.size w w' := by
  intro W hb
  have h' := h.below hb
  have hf := toMesh_f L T hs.1 hs.2.1 hs.2.2 2097156 (by omega)
  rw [← hP] at hf
  refine (laws_toMesh.calls 2097156 A c L B e T P T W h'.1 h'.2.1 h'.2.2.1 h'.2.2.2 hf).mono ?_
  rintro E w' ⟨v0, v1, rfl, hR, hS, hbw⟩
  obtain ⟨A', c', rfl⟩ := Kd.R_slice hR
  obtain ⟨B', e', rfl⟩ := Kd.S_slice hS
  exact ⟨A', c', B', e', rfl, ⟨R_in hR, S_in hS⟩, hbw, below_then hb hbw hb.size⟩

theorem eq_step (P P' : List S42) (T : List (List Int)) (hp : simP P P') (h1 : P.length ≤ 1048576) (h2 : T.length ≤ 1048576) (h3 : ∀ t ∈ T, t.length ≤ 1048576) (W : World) (A A' B B' : Option Addr) (n n' c c' m m' e e' a b a' b' : Nat)
    (x : OwnM W a b (.slice A P.length c) (.slice B T.length e) P T) (y : OwnM W a' b' (.slice A' P'.length c') (.slice B' T.length e') P' T) :
    Calls Try.prog 21 #[.agg #[.slice A P.length c, .slice B T.length e], .agg #[.slice A' P'.length c', .slice B' T.length e']] W fun E w' => E = .returned (.bool true) ∧ Below W.heap.size W w' :=
  laws_eqMesh.calls 2097156 A c P B e T A' c' P' B' e' T true W x.C.1 x.C.2.1 x.C.2.2.1 x.C.2.2.2 y.C.1 y.C.2.1 y.C.2.2.1 y.C.2.2.2 (eqMesh_f P P' T hp h1 h2 h3 _ (by omega))

theorem eqI_step (l : List Int) (h1 : l.length ≤ 1048576) (W : World) (A A' : Option Addr) (c c' a b a' b' : Nat) (x : OwnI W a b (.slice A l.length c) l) (y : OwnI W a' b' (.slice A' l.length c') l) :
    Calls Try.prog 30 #[.slice A l.length c, .slice A' l.length c'] W fun E w' => E = .returned (.bool true) ∧ Drawn0 W w' :=
  laws_eqInt64S.calls 1048578 A c l A' c' l true W x.C.1 x.C.2 y.C.1 y.C.2 (eqI_f l h1 _ (by omega))

theorem markI_step (l : List Int) (h1 : l.length ≤ 1048576) (q : Int) (hq : 0 ≤ q) (hq1 : q ≤ 1099511627776) (W : World) (A : Option Addr) (c a b : Nat) (x : OwnI W a b (.slice A l.length c) l) (b0 : Nat) (w0 : World) (K : Below b0 w0 W) (hb0 : b0 ≤ a) (hbw : b0 ≤ W.heap.size) :
    Calls Try.prog 31 #[.slice A l.length c, .int .i64 q] W fun E w' => E = .returned (.int .i64 (q + (l.length : Int))) ∧ OwnI w' a b (.slice A l.length c) (marksA q l.length) ∧ Kept W w' (In a b) ∧ Below b0 w0 w' := by
  refine (mark_ints _ l h1 q hq (by omega) W a (Kd.own_of_R x)).mono ?_
  rintro E w' ⟨rfl, ho, hg⟩
  exact ⟨rfl, Kd.R_of_own (by rw [marksA_len]; exact ho) (fun k hk => x.1 k hk), kept_grown hg (fun k hk => x.1 k hk), Below.grown K hg hbw (fun k hk => Nat.le_trans hb0 (x.1 k hk).1)⟩

theorem heldI_step (n : Nat) (h1 : n ≤ 1048576) (q : Int) (hq : 0 ≤ q) (hq1 : q ≤ 1099511627776) (W : World) (A : Option Addr) (c a b : Nat) (x : OwnI W a b (.slice A n c) (marksA q n)) :
    Calls Try.prog 32 #[.slice A n c, .int .i64 q] W fun E w' => E = .returned (.int .i64 (q + (n : Int))) ∧ Drawn0 W w' := by
  have hl := marksA_len q n
  have h := laws_heldInt64S.calls 1048577 A c (marksA q n) q (q + (n : Int)) W x.C.1 x.C.2 (held_fA q hq (by omega) n h1)
  rw [hl] at h
  exact h

theorem own_rebase {w : World} {base base' : Nat} {e : TypeId} {size n : Nat} {v : Value} {xs : List Value} (h : w.ownsRow base e size v n xs) (hb : ∀ k, v.ownBlock = some k → base' ≤ k) : w.ownsRow base' e size v n xs := by
  obtain ⟨h1, h2⟩ := h
  refine ⟨h1, ?_⟩
  rcases h2 with h2 | ⟨g, cap, cur, rfl, hg, r⟩
  · exact .inl h2
  · exact .inr ⟨g, cap, cur, rfl, hb g rfl, r⟩

/-- A vector of three marks. -/
def mkV (q : Int) : S42 := ⟨floatOfInt .f32 q, floatOfInt .f32 (q + 1), floatOfInt .f32 (q + 2)⟩
def marksV (q : Int) (n : Nat) : List S42 := (List.range n).map fun t : Nat => mkV (q + 3 * (t : Int))
theorem marksV_len (q : Int) (n : Nat) : (marksV q n).length = n := by simp [marksV]
theorem marksV_get (q : Int) (n i : Nat) (h : i < (marksV q n).length) : (marksV q n)[i] = mkV (q + 3 * (i : Int)) := by simp [marksV]
def partV (q : Int) (l : List S42) (i : Nat) : List S42 := marksV q i ++ l.drop i
theorem partV_len (q : Int) (l : List S42) (i : Nat) (h : i ≤ l.length) : (partV q l i).length = l.length := by simp [partV, marksV_len]; omega
theorem partV_all (q : Int) (l : List S42) : partV q l l.length = marksV q l.length := by simp [partV]
theorem partV_set (q : Int) (l : List S42) (i : Nat) (h : i < l.length) : (partV q l i).set i (mkV (q + 3 * (i : Int))) = partV q l (i + 1) := by
  have e1 : marksV q (i + 1) = marksV q i ++ [mkV (q + 3 * (i : Int))] := by simp [marksV, List.range_succ]
  have e2 : l.drop i = l[i] :: l.drop (i + 1) := List.drop_eq_getElem_cons h
  have hm : (marksV q i).length = i := marksV_len q i
  unfold partV
  rw [e1, e2, List.set_append, if_neg (by omega), hm, Nat.sub_self, List.set_cons_zero, List.append_assoc]
  rfl
theorem rd_set (Q : List S42) (i : Nat) (h : i < Q.length) (x : S42) : rd_T42 (Q.set i x) (i : Int) = x := by
  rw [rdV _ _ (by rw [List.length_set]; exact h), List.getElem_set_self]

theorem markV_loop (P : List S42) (q : Int) (h0 : 0 ≤ q) (hq : q ≤ 8796093022208) (hP : P.length ≤ 1048576) (d : Nat) : ∀ (k i : Nat), i ≤ P.length → P.length - i = d → d < k → laws_markVectorS.l0 k (partV q P i) (q + 3 * (i : Int)) (i : Int) = some (q + 3 * (P.length : Int), marksV q P.length) := by
  induction d with
  | zero =>
    intro k i hi hd hk
    obtain ⟨k, rfl⟩ : ∃ j, k = j + 1 := ⟨k - 1, by omega⟩
    have hl := partV_len q P i hi
    obtain rfl : i = P.length := by omega
    simp only [laws_markVectorS.l0]
    rw [if_neg (by omega), partV_all]
  | succ d ih =>
    intro k i hi hd hk
    obtain ⟨k, rfl⟩ : ∃ j, k = j + 1 := ⟨k - 1, by omega⟩
    have hl := partV_len q P i hi
    have hil : i < (partV q P i).length := by omega
    simp only [laws_markVectorS.l0]
    rw [if_pos (by omega), if_pos (by omega)]
    simp only [Option.bind_some]
    rw [Msh.wrap_fit (x := q + 3 * (i : Int) + 1) (by omega) (by omega), Msh.wrap_fit (x := q + 3 * (i : Int) + 1 + 1) (by omega) (by omega), Msh.wrap_fit (x := q + 3 * (i : Int) + 1 + 1 + 1) (by omega) (by omega), up i (by omega), Int.toNat_natCast]
    simp only [List.set_set, rd_set _ _ hil]
    have e := ih k (i + 1) (by omega) (by omega) (by omega)
    rw [← partV_set q P i (by omega)] at e
    rw [show q + 3 * (i : Int) + 1 + 1 + 1 = q + 3 * ((i + 1 : Nat) : Int) by omega, show q + 3 * (i : Int) + 1 + 1 = q + 3 * (i : Int) + 2 by omega]
    exact e

theorem markV_step (P : List S42) (h1 : P.length ≤ 1048576) (q : Int) (hq : 0 ≤ q) (hq1 : q ≤ 8796093022208) (W : World) (v : Value) (a b : Nat) (x : Kd.R k42 42 W a (In a b) v P) (w0 : World) (K : Below w0.heap.size w0 W) (hb0 : w0.heap.size ≤ a) :
    Calls Try.prog 63 #[v, .int .i64 q] W fun E w' => E = .returned (.int .i64 (q + 3 * (P.length : Int))) ∧ Kd.R k42 42 w' a (In a b) v (marksV q P.length) ∧ Kept W w' (fun k => some k = v.ownBlock) ∧ Below w0.heap.size w0 w' := by
  have hf := markV_loop P q hq hq1 h1 P.length 1048577 0 (by omega) (by omega) (by omega)
  rw [show q + 3 * ((0 : Nat) : Int) = q by omega, show ((0 : Nat) : Int) = 0 from rfl, show partV q P 0 = P by simp [partV, marksV]] at hf
  have hE : (k42 : Kd S42).E = [] := rfl
  refine (laws_markVectorS.calls 1048577 (fun k => some k = v.ownBlock) v P q (q + 3 * (P.length : Int)) (marksV q P.length) w0 W K (Kd.R_lower (Kd.R_tight hE x) hb0) hf).mono ?_
  rintro E w' ⟨rfl, hR, hB, hK⟩
  refine ⟨rfl, ?_, hK, hB⟩
  refine ⟨x.1, ?_⟩
  obtain ⟨_, inner, ho, hr⟩ := hR
  refine ⟨inner, own_rebase ho (fun k hk => (x.1 k hk).1), hr.imp_ (fun p cs hp => ?_)⟩
  obtain rfl := k42_openM hp
  exact k42_mkM _ _ _ p

set_option maxHeartbeats 1000000 in
theorem markM_step (P : List S42) (T : List (List Int)) (h1 : P.length ≤ 1048576) (h2 : T.length ≤ 1048576) (h3 : ∀ t ∈ T, t.length ≤ 1048576) (q : Int) (hq : 0 ≤ q) (hq1 : q ≤ 4398046511104) (W : World) (A B : Option Addr) (c e a b : Nat) (x : OwnM W a b (.slice A P.length c) (.slice B T.length e) P T) (w0 : World) (K : Below w0.heap.size w0 W) (hb0 : w0.heap.size ≤ a) (hbW : b ≤ W.heap.size) :
    Calls Try.prog 22 #[.agg #[.slice A P.length c, .slice B T.length e], .int .i64 q] W fun E w' => E = .returned (.int .i64 (q + 3 * (P.length : Int) + (tot T : Int))) ∧ OwnM w' a b (.slice A P.length c) (.slice B T.length e) (marksV q P.length) (marksT (q + 3 * (P.length : Int)) T) ∧ Kept W w' (In a b) ∧ Below w0.heap.size w0 w' := by
  obtain ⟨xP, xT⟩ := x
  have hxP : ∀ k, (Value.slice A P.length c).ownBlock = some k → In a b k := fun k hk => xP.1 k hk
  have xT2 : Kd.S (Kd.slice 2 (Kd.int .i64)) 56 W a (fun k => In a b k ∧ some k ≠ (Value.slice A P.length c).ownBlock) (.slice B T.length e) T := by
    exact Kd.S_apart' xT (Kd.R_typed xP) (by decide)
  have H0 := Lib.hid hb0
  have XP := Lib.hid (Kd.R_alloc xP (.cells #[.slice A P.length c, .slice B T.length e] 27))
  have XT := Lib.hid (Kd.S_alloc xT2 (.cells #[.slice A P.length c, .slice B T.length e] 27))
  have K1 := Lib.hid (below_alloc K (.cells #[.slice A P.length c, .slice B T.length e] 27))
  have H3 := Lib.hid h3
  have HQ2 : Hid (q + 3 * (P.length : Int) ≤ 17592186044416) := Lib.hid (by omega)
  have hstep : ∀ w1 : World, Kept (W.alloc (.cells #[.slice A P.length c, .slice B T.length e] 27)) w1 (fun k => some k = (Value.slice A P.length c).ownBlock) → w1.cell? ⟨W.heap.size, 1, none⟩ = some (.slice B T.length e) := fun w1 hk =>
    cell_kept ((blk_cell (heap_alloc_new W _) 1).trans rfl) hk (fun h => by have := hxP _ h.symm; unfold In at this; simp only at this; omega)
  have HST := Lib.hid hstep
  have hfin : ∀ w1 w2 : World, Kept (W.alloc (.cells #[.slice A P.length c, .slice B T.length e] 27)) w1 (fun k => some k = (Value.slice A P.length c).ownBlock) → Kept w1 w2 (fun k => In a b k ∧ some k ≠ (Value.slice A P.length c).ownBlock) → Kept W w2 (In a b) := fun w1 w2 k1 k2 =>
    (((Kept.refl W (In a b)).alloc _).then_ k1 (fun k hk => .inl (hxP k hk.symm))).then_ k2 (fun k hk => .inl hk.1)
  have HF := Lib.hid hfin
  have hbw := K.size
  clear xP xT xT2 K h3 hstep hbw hb0 hfin hxP hbW
  go_enter Try.func22, Try.ntmps22
  go_wp2_with (first | (go_at_call 63; refine (markV_step P h1 q hq (by omega) _ _ a b XP.out w0 K1.out H0.out).mono ?_; rintro E w1 ⟨rfl, hR, hK, hB⟩; have hc1 := HST.out w1 hK; have R1 := Lib.hid hR; have KK1 := Lib.hid hK; have B1 := Lib.hid hB; clear hR hK hB) | (go_at_call 64; refine (mark_rows _ T h2 H3.out _ (by omega) HQ2.out _ a _ _ w0 B1.out H0.out B1.out.size (Kd.S_kept XT.out KK1.out (fun k hk he => hk.2 he))).mono ?_; rintro E w2 ⟨rfl, hS, hK2, hB2⟩; have S2 := Lib.hid hS; have KK2 := Lib.hid hK2; have B2 := Lib.hid hB2; clear hS hK2 hB2) | fail)
  go_ret
  have hE : (k42 : Kd S42).E = [] := rfl
  refine ⟨rfl, ⟨?_, Kd.S_mono S2.out (fun k hk => hk.1)⟩, HF.out _ _ KK1.out KK2.out, B2.out⟩
  exact Kd.R_mono (Kd.R_kept (Kd.R_tight2 hE R1.out) KK2.out (fun k hk hn => hn.2 hk.1)) (fun k hk => hk.2)

end Go.Proofs.Ytepilofcionekaa
namespace Go.Proofs.Ytepilofcionekaa.Msh
open Fl Go.RowKit Go.Proofs.YtepilofcionekaaW.PrintWords Go.Proofs.Ytepilofcionekaa.PMesh
set_option linter.unusedVariables false

def hasAll (ps : List Int) (t : List Int) : Bool := ps.all fun p => t.contains p
/-- The numbers, from i on, of those triangles that have all of some places. -/
def withL (ps : List Int) : Nat → List (List Int) → List Int
  | _, [] => []
  | i, t :: r => if hasAll ps t = true then (i : Int) :: withL ps (i + 1) r else withL ps (i + 1) r

theorem withL_len (ps : List Int) (T : List (List Int)) : ∀ i, (withL ps i T).length ≤ T.length := by
  induction T with
  | nil => intro i; simp [withL]
  | cons t r ih => intro i; have := ih (i + 1); unfold withL; split <;> simp <;> omega

theorem hasAll_two (a b : Int) (t : List Int) : hasAll [a, b] t = (t.contains a && t.contains b) := by simp [hasAll]

theorem all3 {n : Nat} {T : List (List Int)} (h : T.all (triB n) = true) : ∀ t ∈ T, t.length = 3 := fun t ht => triB_len (List.all_eq_true.1 h t ht)
theorem validB_iff {n : Nat} {T : List (List Int)} : validB n T = true ↔ n ≤ 64 ∧ T.length ≤ 128 ∧ T.all (triB n) = true := by simp [validB, and_assoc]

theorem has_f (t : List Int) (h : t.length = 3) (p : Int) : spec_l02Has.f t p = some (t.contains p) := by
  obtain ⟨a, b, c, rfl⟩ := tri3 h
  unfold spec_l02Has.f
  simp only [rd3_0, rd3_1, rd3_2, List.length_cons, List.length_nil]
  by_cases e0 : a = p
  · simp [e0]
  · by_cases e1 : b = p
    · simp [e0, e1]
    · by_cases e2 : c = p
      · simp [e0, e1, e2]
      · have e0' : ¬ p = a := fun h => e0 h.symm
        have e1' : ¬ p = b := fun h => e1 h.symm
        have e2' : ¬ p = c := fun h => e2 h.symm
        simp [e0, e1, e2, e0', e1', e2']

theorem at_loop (Q : List S42) (T : List (List Int)) (hT : T.length ≤ 128) (h3 : ∀ t ∈ T, t.length = 3) (a b : Int) (d : Nat) : ∀ (k i : Nat) (out : List Int), i ≤ T.length → T.length - i = d → out.length ≤ i → d < k → spec_l02At.l0 k a b out (i : Int) Q T = some (out ++ withL [a, b] i (T.drop i)) := by
  induction d with
  | zero =>
    intro k i out hi hd ho hk
    obtain ⟨k, rfl⟩ : ∃ j, k = j + 1 := ⟨k - 1, by omega⟩
    simp only [spec_l02At.l0]
    rw [if_neg (by omega), List.drop_of_length_le (by omega)]
    simp [withL]
  | succ d ih =>
    intro k i out hi hd ho hk
    obtain ⟨k, rfl⟩ : ∃ j, k = j + 1 := ⟨k - 1, by omega⟩
    have hil : i < T.length := by omega
    have e : T.drop i = T[i] :: T.drop (i + 1) := List.drop_eq_getElem_cons hil
    have hl3 := h3 _ (List.getElem_mem hil)
    simp only [spec_l02At.l0]
    rw [if_pos (by omega), if_pos (by omega), rdL T i hil, has_f _ hl3, e]
    simp only [Option.bind_some, withL]
    rw [hasAll_two, has_f _ hl3]
    simp only [Option.bind_some]
    by_cases ha : T[i].contains a = true
    · rw [if_pos ha]
      by_cases hb : T[i].contains b = true
      · rw [if_pos hb, if_pos (by omega), if_pos (by rw [ha, hb]; rfl), up i (by omega), ih k (i + 1) _ (by omega) (by omega) (by simp; omega) (by omega), List.append_assoc]
        rfl
      · rw [if_neg hb, if_neg (by simp only [ha, Bool.true_and]; exact hb), up i (by omega), ih k (i + 1) _ (by omega) (by omega) (by omega) (by omega)]
    · rw [if_neg ha, if_neg (by rw [Bool.eq_false_iff.2 ha]; simp), up i (by omega), ih k (i + 1) _ (by omega) (by omega) (by omega) (by omega)]

theorem at_f (Q : List S42) (T : List (List Int)) (hv : validB Q.length T = true) (a b : Int) : spec_l02At.f 200 Q T a b = some (withL [a, b] 0 T) := by
  obtain ⟨_, h2, h3⟩ := validB_iff.1 hv
  unfold spec_l02At.f
  have := at_loop Q T h2 (all3 h3) a b T.length 200 0 [] (by omega) (by omega) (by simp) (by omega)
  rw [show ((0 : Nat) : Int) = 0 from rfl] at this
  rw [this]
  simp

end Go.Proofs.Ytepilofcionekaa.Msh
namespace Go.Proofs.Ytepilofcionekaa.Msh
open Fl Go.RowKit Go.Proofs.YtepilofcionekaaW.PrintWords Go.Proofs.Ytepilofcionekaa.PMesh
set_option linter.unusedVariables false

/-- The three tways of a triangle. -/
def ways3 (t : List Int) : List (Nat × Nat) := [((rd t 0).toNat, (rd t 1).toNat), ((rd t 1).toNat, (rd t 2).toNat), ((rd t 2).toNat, (rd t 0).toNat)]
def tways (T : List (List Int)) : List (Nat × Nat) := T.flatMap ways3
/-- A way's edge. -/
def edgeN (p : Nat × Nat) : Nat × Nat := (min p.1 p.2, max p.1 p.2)
theorem ways_snoc (T : List (List Int)) (t : List Int) : tways (T ++ [t]) = tways T ++ ways3 t := by simp [tways]
theorem ways3_nat (a b c : Nat) : ways3 [(a : Int), (b : Int), (c : Int)] = [(a, b), (b, c), (c, a)] := by simp [ways3, rd3_0, rd3_1, rd3_2]
theorem ways3_len (t : List Int) : (ways3 t).length = 3 := rfl
theorem ways_len (T : List (List Int)) : (tways T).length = 3 * T.length := by
  induction T with
  | nil => rfl
  | cons t r ih => simp only [tways, List.flatMap_cons, List.length_append, ways3_len] at ih ⊢; rw [ih, List.length_cons]; omega

theorem tri_natE {n : Nat} {t : List Int} (h : triB n t = true) : ∃ a b c : Nat, t = [(a : Int), (b : Int), (c : Int)] ∧ a < n ∧ b < n ∧ c < n ∧ a ≠ b ∧ b ≠ c ∧ a ≠ c := by
  obtain ⟨x, y, z, rfl⟩ := tri3 (triB_len h)
  rw [triB_rd n _ rfl] at h
  simp [inB, rd3_0, rd3_1, rd3_2] at h
  have e1 := of_decide_eq_true h.1.1.1; have e2 := of_decide_eq_true h.1.1.2; have e3 := of_decide_eq_true h.1.2
  exact ⟨x.toNat, y.toNat, z.toNat, by rw [Int.toNat_of_nonneg (show 0 ≤ x by omega), Int.toNat_of_nonneg (show 0 ≤ y by omega), Int.toNat_of_nonneg (show 0 ≤ z by omega)], by omega, by omega, by omega, by omega, by omega, by omega⟩
theorem valid_triE {n : Nat} {T : List (List Int)} (h : validB n T = true) (t : List Int) (ht : t ∈ T) : triB n t = true := List.all_eq_true.1 (validB_iff.1 h).2.2 t ht

theorem ways_lt {n : Nat} {T : List (List Int)} (h : T.all (triB n) = true) : ∀ p ∈ tways T, p.1 < n ∧ p.2 < n ∧ p.1 ≠ p.2 := by
  intro p hp
  obtain ⟨t, ht, hp⟩ := List.mem_flatMap.1 hp
  obtain ⟨a, b, c, rfl, ha, hb, hc, e1, e2, e3⟩ := tri_natE (List.all_eq_true.1 h t ht)
  rw [ways3_nat] at hp
  simp only [List.mem_cons, List.not_mem_nil, or_false] at hp
  rcases hp with rfl | rfl | rfl
  · exact ⟨ha, hb, e1⟩
  · exact ⟨hb, hc, e2⟩
  · exact ⟨hc, ha, fun h => e3 h.symm⟩

/-- Whether some triangle has two places. -/
def isE (T : List (List Int)) (a b : Nat) : Bool := T.any fun t => t.contains (a : Int) && t.contains (b : Int)
theorem mem_edges {n : Nat} {T : List (List Int)} (h : T.all (triB n) = true) {a b : Nat} (hab : a < b) : (a, b) ∈ (tways T).map edgeN ↔ isE T a b = true := by
  unfold isE tways
  rw [List.any_eq_true, List.map_flatMap, List.mem_flatMap]
  constructor
  · rintro ⟨t, ht, hp⟩
    refine ⟨t, ht, ?_⟩
    obtain ⟨x, y, z, rfl, _⟩ := tri_natE (List.all_eq_true.1 h t ht)
    rw [ways3_nat] at hp
    simp only [List.map_cons, List.map_nil, edgeN, List.mem_cons, List.not_mem_nil, or_false, Prod.mk.injEq] at hp
    simp only [List.contains_cons, List.contains_nil, Bool.or_false, Bool.and_eq_true, Bool.or_eq_true, beq_iff_eq]
    omega
  · rintro ⟨t, ht, hp⟩
    refine ⟨t, ht, ?_⟩
    obtain ⟨x, y, z, rfl, _⟩ := tri_natE (List.all_eq_true.1 h t ht)
    rw [ways3_nat]
    simp only [List.contains_cons, List.contains_nil, Bool.or_false, Bool.and_eq_true, Bool.or_eq_true, beq_iff_eq] at hp
    simp only [List.map_cons, List.map_nil, edgeN, List.mem_cons, List.not_mem_nil, or_false, Prod.mk.injEq]
    omega

/-- The edges from a on, and all. -/
def edgesA (n : Nat) (T : List (List Int)) (a : Nat) : List (List Int) := ((List.range n).filter fun b => decide (a < b) && isE T a b).map fun b : Nat => ([(a : Int), (b : Int)] : List Int)
def edgesL (n : Nat) (T : List (List Int)) : List (List Int) := (List.range n).flatMap (edgesA n T)
/-- The same, as pairs of numbers. -/
def edgesP (n : Nat) (T : List (List Int)) : List (Nat × Nat) := (List.range n).flatMap fun a => ((List.range n).filter fun b => decide (a < b) && isE T a b).map fun b => (a, b)
theorem edgesL_P (n : Nat) (T : List (List Int)) : edgesL n T = (edgesP n T).map fun p => [(p.1 : Int), (p.2 : Int)] := by
  unfold edgesL edgesP edgesA
  rw [List.map_flatMap]
  congr 1
  funext a
  rw [List.map_map]
  rfl
theorem mem_edgesP {n : Nat} {T : List (List Int)} {p : Nat × Nat} : p ∈ edgesP n T ↔ p.1 < n ∧ p.2 < n ∧ p.1 < p.2 ∧ isE T p.1 p.2 = true := by
  unfold edgesP
  rw [List.mem_flatMap]
  constructor
  · rintro ⟨a, ha, hp⟩
    rw [List.mem_map] at hp
    obtain ⟨b, hb, rfl⟩ := hp
    rw [List.mem_filter] at hb
    simp at ha hb
    exact ⟨ha, hb.1, hb.2.1, hb.2.2⟩
  · rintro ⟨h1, h2, h3, h4⟩
    refine ⟨p.1, by simp [h1], ?_⟩
    rw [List.mem_map]
    exact ⟨p.2, by rw [List.mem_filter]; simp [h2, h3, h4], rfl⟩
theorem nodup_range (n : Nat) : (List.range n).Nodup := List.nodup_range
theorem edgesP_nodup (n : Nat) (T : List (List Int)) : (edgesP n T).Nodup := by
  unfold edgesP
  rw [List.nodup_iff_pairwise_ne, List.pairwise_flatMap]
  refine ⟨fun a _ => ?_, ?_⟩
  · rw [List.pairwise_map]
    refine List.Pairwise.imp ?_ (List.nodup_iff_pairwise_ne.1 ((nodup_range n).filter _))
    intro x y h e
    exact h (Prod.mk.inj e).2
  · refine List.Pairwise.imp ?_ (List.nodup_iff_pairwise_ne.1 (nodup_range n))
    intro a b hab p hp q hq e
    rw [List.mem_map] at hp hq
    obtain ⟨x, _, rfl⟩ := hp
    obtain ⟨y, _, rfl⟩ := hq
    exact hab (Prod.mk.inj e).1
theorem edges_iff {n : Nat} {T : List (List Int)} (h : T.all (triB n) = true) (p : Nat × Nat) : p ∈ edgesP n T ↔ p ∈ (tways T).map edgeN := by
  rw [mem_edgesP]
  constructor
  · rintro ⟨h1, h2, h3, h4⟩
    exact (mem_edges h h3).2 h4
  · intro hp
    obtain ⟨q, hq, rfl⟩ := List.mem_map.1 hp
    obtain ⟨h1, h2, h3⟩ := ways_lt h q hq
    have h4 : (edgeN q).1 < (edgeN q).2 := by unfold edgeN; simp only; omega
    exact ⟨by unfold edgeN; simp only; omega, by unfold edgeN; simp only; omega, h4, (mem_edges h h4).1 hp⟩
theorem edgesP_len {n : Nat} (hn : n ≤ 64) (T : List (List Int)) : (edgesP n T).length ≤ 4096 := by
  unfold edgesP
  rw [List.length_flatMap]
  have h1 : ∀ l : List Nat, (∀ x ∈ l, x ≤ 64) → l.sum ≤ l.length * 64 := by
    intro l
    induction l with
    | nil => intro _; simp
    | cons x r ih => intro h; have := h x (by simp); have := ih (fun y hy => h y (by simp [hy])); simp only [List.sum_cons, List.length_cons]; omega
  have := h1 ((List.range n).map fun a => (((List.range n).filter fun b => decide (a < b) && isE T a b).map fun b => (a, b)).length) (by
    intro x hx
    obtain ⟨a, _, rfl⟩ := List.mem_map.1 hx
    rw [List.length_map]
    have := List.length_filter_le (fun b => decide (a < b) && isE T a b) (List.range n)
    simp at this
    simp
    omega)
  rw [List.length_map, List.length_range] at this
  have : n * 64 ≤ 4096 := by omega
  omega
end Go.Proofs.Ytepilofcionekaa.Msh
namespace Go.Proofs.Ytepilofcionekaa.Mp
open Go.RowKit Go.Maps Go.WideMaps Go.Proofs.YtepilofcionekaaW.PrintWords
open Go.ChangeMaps (setBlock heap_setBlock_same heap_setBlock_other)
set_option linter.unusedVariables false

theorem pos_succ {a b : Nat} (h : a < b) : ∃ m, b = m + 1 := ⟨b - 1, by omega⟩
theorem plainElem_bool_inv {H : Type} {P : Program} {e : TypeId} (he : P.underlying e = some .bool) {v : Value} {z : DataW H × List MemPlace} (h : plainElem P e v = some z) : ∃ x, v = .bool x ∧ z = (.lit (.bool x), []) := by
  unfold plainElem at h
  rw [he] at h
  cases v <;> simp at h
  exact ⟨_, rfl, h.symm⟩
theorem ok_inj {α : Type} {a b : α} {w w' : World} (h : (Result.ok a w : Result α) = .ok b w') : a = b ∧ w = w' := by cases h; exact ⟨rfl, rfl⟩
theorem tup_inj {a b c d : Value} (h : Value.tuple #[a, b] = .tuple #[c, d]) : a = c ∧ b = d := by
  injection h with h
  simpa using h
theorem goInt_inj {a b : Int} (h : goInt a = goInt b) : a = b := by injection h

theorem laid : laidOutB Try.prog = true := by kernel_rfl

theorem e_row : (106 : TypeId) < Try.prog.types.size := of_decide_eq_true (by kernel_rfl)
theorem e_arr : ArrKey Try.prog 106 2 2 := ⟨Try.underlying106, by kernel_rfl, by kernel_rfl, by kernel_rfl⟩
theorem e_wide : (match Try.prog.underlying 106 with | some (.array _ _) | some (.struct _) => true | _ => false) = true := by rw [Try.underlying106]
set_option maxRecDepth 100000 in
theorem e_law : KeyLaw Try.prog 106 := deep_law_laid laid (m := 2) (by omega) e_row (by kernel_rfl) e_wide
theorem e_keyed : Keyed Try.prog 106 := Keyed.of_law e_law
theorem t_size : ∃ m, Try.prog.types.size = m + 1 := pos_succ e_row

/-- The value of an edge. -/
def eval2 (p : Nat × Nat) : Value := .agg #[.int .i64 (p.1 : Int), .int .i64 (p.2 : Int)]
def ekey (p : Nat × Nat) : Lit := .string (keyBytes [.int .i64 (p.1 : Int), .int .i64 (p.2 : Int)])
def Small (p : Nat × Nat) : Prop := p.1 ≤ 1000 ∧ p.2 ≤ 1000
theorem wf_small {x : Nat} (h : x ≤ 1000) : (Lit.int .i64 (x : Int)).wf = true := WalkArith.wf_i64 (by omega)

theorem ekey_mk {p : Nat × Nat} (h : Small p) : keyOf Try.prog 106 (eval2 p) = some (ekey p) := keyOf_pair e_arr Try.underlying2 t_size (wf_small h.1) (wf_small h.2)
theorem ekey_inj {p q : Nat × Nat} (hp : Small p) (hq : Small q) (h : ekey p = ekey q) : p = q := by
  have := e_keyed.inj (ekey_mk hp) (by rw [h]; exact ekey_mk hq)
  unfold eval2 at this
  simp at this
  exact Prod.ext (Int.ofNat.inj this.1) (Int.ofNat.inj this.2)
theorem ekey_lit {p : Nat × Nat} (hp : Small p) : WideAt.IsKeyLit (ekey p) := e_keyed.key (ekey_mk hp)

/-- A kind of plain elements. -/
structure El (e : TypeId) (α : Type) where
  val : α → Value
  lit : α → Lit
  z : α
  ok : α → Prop
  zok : ok z
  mke : ∀ x, ok x → plainElem (H := Unit) Try.prog e (val x) = some (.lit (lit x), [])
  inv : ∀ v x ps, plainElem (H := Unit) Try.prog e v = some (.lit (lit x), ps) → v = val x
  zero : ∀ w, (zeroValue e).run Try.prog w = .ok (val z) w

def elB : El 4 Bool where
  val := Value.bool
  lit := Lit.bool
  z := false
  ok := fun _ => True
  zok := trivial
  mke := fun x _ => plainElem_bool Try.underlying4 x
  inv := fun v x ps h => by
    obtain ⟨y, rfl, h2⟩ := plainElem_bool_inv Try.underlying4 h
    simp at h2
    rw [h2.1]
  zero := fun w => by kernel_rfl

def elI : El 3 Nat where
  val := fun x => .int .i64 (x : Int)
  lit := fun x => .int .i64 (x : Int)
  z := 0
  ok := fun x => x ≤ 1000
  zok := by omega
  mke := fun x h => plainElem_int Try.underlying3 (wf_small h)
  inv := fun v x ps h => by
    obtain ⟨a, rfl, h2, _⟩ := plainElem_int_inv Try.underlying3 h
    simp at h2
    rw [h2.1]
  zero := fun w => by kernel_rfl

section
variable {e : TypeId} {α : Type} (E : El e α)
/-- Block b is a map of at most n entries that holds f. -/
def MapF (w : World) (b n : Nat) (f : Nat × Nat → α) : Prop := ∃ D : DataW Unit, w.ownsMap Try.prog 106 (plainElem Try.prog e) b n D ∧ ∀ p, Small p → D.atKey (ekey p) (.lit (E.lit E.z)) = .lit (E.lit (f p)) ∧ E.ok (f p)
def upd (f : Nat × Nat → α) (p : Nat × Nat) (x : α) (q : Nat × Nat) : α := if q = p then x else f q
variable {E} {w w' : World} {b n : Nat} {f : Nat × Nat → α}
theorem MapF.made (w : World) : MapF E (w.alloc (.map #[] 0)) w.heap.size 0 (fun _ => E.z) := ⟨_, World.ownsMap_made w _ _ _, fun p _ => ⟨rfl, E.zok⟩⟩
theorem MapF.lt (h : MapF E w b n f) : b < w.heap.size := let ⟨_, h1, _⟩ := h; h1.lt
theorem MapF.kept {row : Option Nat} (h : MapF E w b n f) (hg : w.grownBy w' row) (hne : some b ≠ row) : MapF E w' b n f := let ⟨D, h1, h2⟩ := h; ⟨D, h1.kept hg hne, h2⟩
theorem MapF.below (h : MapF E w b n f) (hb : Below w.heap.size w w') : MapF E w' b n f := h.kept (grown_of_below hb none) (by simp)
theorem MapF.look {t : TypeId} (h : MapF E w b n f) (ht : Try.prog.underlying t = some (.map 106 e)) {p : Nat × Nat} (hp : Small p) : (Instr.lookup t (.map (some b)) (eval2 p) false).run Try.prog w = .ok (E.val (f p)) w := by
  obtain ⟨D, h1, h2⟩ := h
  obtain ⟨v, ps, h3, h4⟩ := h1.lookup e_keyed ht (E.zero w) (E.mke _ E.zok) (ekey_mk hp)
  rw [(h2 p hp).1] at h4
  rw [h3, E.inv v _ _ h4]
theorem MapF.put {t : TypeId} (h : MapF E w b n f) (ht : Try.prog.underlying t = some (.map 106 e)) (hn : n < maxLen) {p : Nat × Nat} (hp : Small p) {x : α} (hx : E.ok x) :
    ∃ w1, (Instr.mapUpdate t (.map (some b)) (eval2 p) (E.val x)).run Try.prog w = .ok () w1 ∧ MapF E w1 b (n + 1) (upd f p x) ∧ w.grownBy w1 (some b) := by
  obtain ⟨D, h1, h2⟩ := h
  obtain ⟨w1, h3, h4, h5⟩ := h1.update e_keyed ht hn (ekey_mk hp) (E.mke x hx)
  refine ⟨w1, h3, ⟨_, h4, fun q hq => ?_⟩, h5⟩
  unfold upd
  by_cases hqp : q = p
  · rw [hqp, if_pos rfl]
    exact ⟨atKey_put_same h1.isMap (ekey_lit hp) _ _, hx⟩
  · rw [if_neg hqp]
    refine ⟨?_, (h2 q hq).2⟩
    rw [atKey_put_other (fun he => hqp (ekey_inj hq hp he))]
    exact (h2 q hq).1

open Go.WideElems (Fit rd rg pl entry_then_store set_self) in
theorem entry_world {P : Program} {t k e : TypeId} {R : Value → Option (DataW Unit × List MemPlace)} {es : Array MapEntry} {clock : Nat} (K : KeyLaw P k) (ht : P.underlying t = some (.map k e)) {z : Value} (hz : ∀ u : World, (zeroValue e).run P u = .ok z u) (hb : w.heap[b]? = some (.map es clock)) (F : Fit P k R es clock)
    {key : Value} {kl : Lit} (hkey : keyOf P k key = some kl) : ∃ v0 st w1, (Instr.mapEntry t (.map (some b)) key).run P w = .ok (.tuple #[v0, goInt st]) w1 ∧ (Instr.mapUpdate t (.map (some b)) key v0).run P w = .ok () w1 := by
  rcases K.find w hkey es.toList F.keys with ⟨h1, h2⟩ | ⟨j, e0, h1, h2, h3⟩
  · refine ⟨z, clock, setBlock w b (.map (es.push ⟨key, z, clock⟩) (clock + 1)), ?_, ?_⟩
    · simp [Instr.mapEntry, run_underlying ht, MapKept.run_getObj_map hb, K.check w false hkey, h1, hz, MapKept.run_setObj_map _ hb, Result.andThen, setBlock]
    · simp [Instr.mapUpdate, run_underlying ht, MapKept.run_getObj_map hb, K.check w false hkey, h1, MapKept.run_setObj_map _ hb, Result.andThen, setBlock]
  · have hj : es[j]? = some e0 := by simpa using h2
    have hone : ∀ g : MapEntry → MapEntry, g e0 = e0 → es.modify j g = es := by
      intro g hg
      apply Array.ext'
      rw [Array.toList_modify, ChangeMaps.modify_eq_set _ _ _ _ h2, hg]
      exact set_self _ _ _ h2
    have e1 := hone (fun e => { e with key := key }) (by rw [← h3])
    have e2 := hone (fun e => { e with key := key, val := e0.val }) (by rw [← h3])
    refine ⟨e0.val, e0.born, setBlock w b (.map es clock), ?_, ?_⟩
    · simp [Instr.mapEntry, run_underlying ht, MapKept.run_getObj_map hb, K.check w false hkey, h1, hj, h3, K.stays w hkey, e1, MapKept.run_setObj_map _ hb, Result.andThen, setBlock]
    · simp [Instr.mapUpdate, run_underlying ht, MapKept.run_getObj_map hb, K.check w false hkey, h1, hj, h3, K.stays w hkey, e2, MapKept.run_setObj_map _ hb, Result.andThen, setBlock]

theorem uniq_key : ∀ l : List MapEntry, l.Pairwise (fun x y => x.key ≠ y.key) → ∀ a ∈ l, ∀ b ∈ l, a.key = b.key → a = b
  | [], _, a, ha, _, _, _ => absurd ha (by simp)
  | x :: r, h, a, ha, b, hb, he => by
    obtain ⟨h1, h2⟩ := List.pairwise_cons.1 h
    rcases List.mem_cons.1 ha with rfl | ha'
    · rcases List.mem_cons.1 hb with rfl | hb'
      · rfl
      · exact absurd he (h1 b hb')
    · rcases List.mem_cons.1 hb with rfl | hb'
      · exact absurd he.symm (h1 a ha')
      · exact uniq_key r h2 a ha' b hb' he

open Go.WideElems (Fit rd rg pl entry_then_store set_self) in
/-- 'm[k] op= x' in its parts: the entry made or found; then the store into it. -/
theorem MapF.entry {t : TypeId} (h : MapF E w b n f) (ht : Try.prog.underlying t = some (.map 106 e)) (hn : n + 1 < maxLen) {p : Nat × Nat} (hp : Small p) :
    ∃ v0 st w1, (Instr.mapEntry t (.map (some b)) (eval2 p)).run Try.prog w = .ok (.tuple #[v0, .int .i64 st]) w1 ∧ MapF E w1 b (n + 1) f ∧ w.grownBy w1 (some b) ∧
      ∀ x, E.ok x → ∃ w2, (Instr.entryStore t (.map (some b)) (.int .i64 st) (E.val x)).run Try.prog w1 = .ok () w2 ∧ MapF E w2 b (n + 1) (upd f p x) ∧ w.grownBy w2 (some b) := by
  have h0 := h
  obtain ⟨D, ⟨es, clock, hb, F, hs, hD⟩, h2⟩ := h
  obtain ⟨v0, st, w1, e1, e2⟩ := entry_world e_law ht E.zero hb F (ekey_mk hp)
  obtain ⟨v0', st', es1, clock1, e3, hv, hst⟩ := entry_then_store e_law ht E.zero hb F (ekey_mk hp)
  obtain ⟨e4, e5⟩ := ok_inj (e1.symm.trans e3)
  obtain ⟨rfl, e6⟩ := tup_inj e4
  have e6' := goInt_inj e6
  subst e6'
  have hv0 : v0 = E.val (f p) := by
    have hl := h0.look ht hp
    rcases Maps.fit_look false e_keyed ht (E.zero w) hb F (ekey_mk hp) with ⟨l1, l2, _⟩ | ⟨e0, y, l1, l2, l3, _⟩
    · have hl := (ok_inj (l1.symm.trans hl)).1
      rcases hv with ⟨e0, m1, m2, _⟩ | ⟨_, m2⟩
      · exact absurd m2 (l2 e0 m1)
      · rw [m2, ← hl]; rfl
    · have hl := (ok_inj (l3.symm.trans hl)).1
      rcases hv with ⟨e1, m1, m2, m3⟩ | ⟨m1, _⟩
      · have : e1 = e0 := uniq_key es.toList ((MapKept.stamped_iff es clock).1 F.stamped).2.2 e1 m1 e0 l1 (m2.trans l2.symm)
        rw [m3, this, ← hl]; rfl
      · exact absurd l2 (m1 e0 l1)
  obtain ⟨w1', g1, g2, g3⟩ := h0.put ht (by omega) hp (h2 p hp).2
  rw [← hv0] at g1
  obtain ⟨_, rfl⟩ := ok_inj (e2.symm.trans g1)
  have hsame : ∀ q, upd f p (f p) q = f q := by
    intro q
    unfold upd
    split
    · rename_i hq; rw [hq]
    · rfl
  have hM : MapF E w1 b (n + 1) f := by
    obtain ⟨D1, d1, d2⟩ := g2
    exact ⟨D1, d1, fun q hq => by have := d2 q hq; rwa [hsame] at this⟩
  refine ⟨v0, (st' : Int), w1, e1, hM, g3, fun x hx => ?_⟩
  have hw1 : w1.heap[b]? = some (.map es1 clock1) := by rw [e5]; exact heap_setBlock_same hb _
  obtain ⟨es', clock', k1, k2⟩ := hst w1 (E.val x) hw1
  obtain ⟨w2, p1, p2, p3⟩ := h0.put ht (by omega) hp hx
  have p1 := (ok_inj (k2.symm.trans p1)).2
  refine ⟨_, k1, ?_, ?_⟩
  · obtain ⟨D2, ⟨es2, clock2, r1, r2, r3, r4⟩, d2⟩ := p2
    rw [← p1, heap_setBlock_same hb] at r1
    injection r1 with r1
    injection r1 with r1 r1'
    subst r1
    subst r1'
    exact ⟨D2, ⟨es', clock', heap_setBlock_same hw1 _, r2, r3, r4⟩, d2⟩
  · refine World.grownBy.trans g3 ⟨rfl, rfl, rfl, by simp [setBlock], fun i _ hi => heap_setBlock_other hw1 _ (fun e => hi (by rw [e]))⟩
end

end Go.Proofs.Ytepilofcionekaa.Mp
namespace Go.Proofs.Ytepilofcionekaa
open Fl Go.RowKit Go.Proofs.YtepilofcionekaaW.PrintWords Go.Proofs.Ytepilofcionekaa.PMesh Msh
set_option linter.unusedVariables false

/-- A mesh that the reference has made: it is read alone. -/
def RefM (w : World) (a b : Nat) (vP vT : Value) (P : List S42) (T : List (List Int)) : Prop :=
  Kd.R k42 42 w a (In a b) vP P ∧ Kd.N (Kd.slice 2 (Kd.int .i64)) 56 w a (In a b) vT T
section
variable {w w' : World} {a b c d : Nat} {vP vT : Value} {P : List S42} {T : List (List Int)}
theorem RefM.below (h : RefM w a b vP vT P T) (hb : Below w.heap.size w w') : RefM w' a b vP vT P T := ⟨Kd.R_below h.1 hb, Kd.N_below h.2 hb⟩
theorem RefM.kept (h : RefM w a b vP vT P T) (hk : Kept w w' (In c d)) (ho : b ≤ c ∨ d ≤ a) : RefM w' a b vP vT P T := ⟨Kd.R_kept h.1 hk (In_off ho), Kd.N_kept h.2 hk (In_off ho)⟩
theorem RefM.C {A B : Option Addr} {n m e f : Nat} (h : RefM w a b (.slice A n e) (.slice B m f) P T) : Kd.C k42 w A P.length P ∧ P.length ≤ e ∧ Kd.C (Kd.slice 2 (Kd.int .i64)) w B T.length T ∧ T.length ≤ f := by
  obtain ⟨h1, h2, h3⟩ := Kd.R_reads' h.1
  obtain ⟨h4, h5, h6⟩ := Kd.N_reads' h.2
  exact ⟨h3, by omega, h6, by omega⟩
theorem N_in {α : Type} {d : Kd α} {e base : Nat} {w : World} {v : Value} {xs : List α} {ok : Nat → Prop} (h : Kd.N d e w base ok v xs) (hok : ∀ k, ok k → base ≤ k) : Kd.N d e w base (In base w.heap.size) v xs := Kd.N_mono (Kd.N_bound h) (fun k hk => ⟨hok k hk.1, hk.2⟩)
end
/-- What the reference's function with a mesh and a bool leaves. -/
def AnsR (w : World) (P : List S42) (T : List (List Int)) (b : Bool) (E : Ending) (w' : World) : Prop := ∃ A c B e, E = .returned (.tuple #[.agg #[.slice A P.length c, .slice B T.length e], .bool b]) ∧ RefM w' w.heap.size w'.heap.size (.slice A P.length c) (.slice B T.length e) P T ∧ Below w.heap.size w w'

/-- What a function with a mesh and a bool leaves. -/
def AnsM (w : World) (P : List S42) (T : List (List Int)) (b : Bool) (E : Ending) (w' : World) : Prop := ∃ A c B e, E = .returned (.tuple #[.agg #[.slice A P.length c, .slice B T.length e], .bool b]) ∧ OwnM w' w.heap.size w'.heap.size (.slice A P.length c) (.slice B T.length e) P T ∧ Below w.heap.size w w'

theorem eqR_step (P P' : List S42) (T : List (List Int)) (hp : simP P P') (h1 : P.length ≤ 1048576) (h2 : T.length ≤ 1048576) (h3 : ∀ t ∈ T, t.length ≤ 1048576) (W : World) (A A' B B' : Option Addr) (c c' e e' a b a' b' : Nat)
    (x : OwnM W a b (.slice A P.length c) (.slice B T.length e) P T) (y : RefM W a' b' (.slice A' P'.length c') (.slice B' T.length e') P' T) :
    Calls Try.prog 21 #[.agg #[.slice A P.length c, .slice B T.length e], .agg #[.slice A' P'.length c', .slice B' T.length e']] W fun E w' => E = .returned (.bool true) ∧ Below W.heap.size W w' :=
  laws_eqMesh.calls 2097156 A c P B e T A' c' P' B' e' T true W x.C.1 x.C.2.1 x.C.2.2.1 x.C.2.2.2 y.C.1 y.C.2.1 y.C.2.2.1 y.C.2.2.2 (eqMesh_f P P' T hp h1 h2 h3 _ (by omega))

end Go.Proofs.Ytepilofcionekaa
namespace Go.Proofs.Ytepilofcionekaa
open Fl Go.RowKit Go.Proofs.YtepilofcionekaaW.PrintWords Go.Proofs.YtepilofcionekaaW.PrintLast Go.Proofs.YtepilofcionekaaW.PrintMore Go.Proofs.Ytepilofcionekaa.PMesh Msh
set_option linter.unusedVariables false

theorem copy_loop (Q : List S42) (T : List (List Int)) (hT : T.length ≤ 1048576) (hr : ∀ t ∈ T, t.length ≤ 1048576) (d : Nat) : ∀ (k i : Nat), i ≤ T.length → T.length - i = d → d < k → impl_copyMesh.l0 k T (T.length : Int) (i : Int) Q (T.take i) = some (Q, T) := by
  induction d with
  | zero =>
    intro k i hi hd hk
    obtain ⟨k, rfl⟩ : ∃ j, k = j + 1 := ⟨k - 1, by omega⟩
    obtain rfl : i = T.length := by omega
    simp only [impl_copyMesh.l0]
    rw [if_neg (by omega), List.take_length]
  | succ d ih =>
    intro k i hi hd hk
    obtain ⟨k, rfl⟩ : ∃ j, k = j + 1 := ⟨k - 1, by omega⟩
    have hil : i < T.length := by omega
    have h3 := hr T[i] (List.getElem_mem hil)
    have e := ih k (i + 1) (by omega) (by omega) (by omega)
    rw [List.take_succ_eq_append_getElem hil] at e
    simp only [impl_copyMesh.l0, Option.bind_some, List.nil_append, List.length_nil]
    rw [if_pos (by omega), if_pos (by omega), if_pos (by omega), rdL T i hil, if_pos (by omega), if_pos (by rw [List.length_take]; omega), up i (by omega)]
    exact e
theorem copy_f (Q : List S42) (T : List (List Int)) (hQ : Q.length ≤ 1048576) (hT : T.length ≤ 1048576) (hr : ∀ t ∈ T, t.length ≤ 1048576) : impl_copyMesh.f 1048578 Q T = some (Q, T) := by
  unfold impl_copyMesh.f
  simp only [Option.bind_some, List.nil_append, List.length_nil]
  rw [if_pos (by omega)]
  exact copy_loop Q T hT hr T.length 1048578 0 (by omega) (by omega) (by omega)

theorem valid_rows {n : Nat} {T : List (List Int)} (hv : validB n T = true) : n ≤ 64 ∧ T.length ≤ 128 ∧ ∀ t ∈ T, t.length = 3 := by
  simp only [validB, Bool.and_eq_true, decide_eq_true_eq] at hv
  exact ⟨hv.1.1, hv.1.2, fun t ht => triB_len (List.all_eq_true.1 hv.2 t ht)⟩

theorem kept_two {w : World} {g : Nat} (u v : Value) : Kept w ((w.setCell ⟨g, 0, none⟩ u).setCell ⟨g, 1, none⟩ v) (fun k => k = g) := by
  have h1 : Kept w (w.setCell ⟨g, 0, none⟩ u) (fun k => k = g) := Kept.setCell (p := ⟨g, 0, none⟩) (Kept.refl w (fun k => k = g)) (Or.inl rfl) u
  exact Kept.setCell (p := ⟨g, 1, none⟩) h1 (Or.inl rfl) v

end Go.Proofs.Ytepilofcionekaa
namespace Go.Proofs.Ytepilofcionekaa
open Fl Go.RowKit Go.Proofs.YtepilofcionekaaW.PrintWords Go.Proofs.YtepilofcionekaaW.PrintLast Go.Proofs.YtepilofcionekaaW.PrintMore Go.Proofs.Ytepilofcionekaa.PMesh Msh
set_option linter.unusedVariables false

theorem oldc {w W : World} {a : Addr} {v : Value} (hb : Below w.heap.size w W) (h : w.cell? a = some v) : W.cell? a = some v := (hb.cell (World.block_lt_of_cell? _ _ h)).trans h

/-- The mesh's value if it is valid, else an empty mesh's. -/
def giveV (b : Bool) (u v : Value) : Value := if b = true then .agg #[u, v] else .agg #[.slice none 0 0, .slice none 0 0]

set_option maxHeartbeats 1000000 in
theorem impl_validMesh (A : Option Addr) (c : Nat) (Q : List S42) (B : Option Addr) (e : Nat) (T : List (List Int)) (w : World) (hQ : Kd.C k42 w A Q.length Q) (hq : Q.length ≤ c) (hT : Kd.C (Kd.slice 2 (Kd.int .i64)) w B T.length T) (hqt : T.length ≤ e) :
    Calls Try.prog 50 #[.agg #[.slice A Q.length c, .slice B T.length e]] w fun E w' => E = .returned (.tuple #[giveV (validB Q.length T) (.slice A Q.length c) (.slice B T.length e), .bool (validB Q.length T)]) ∧ Below w.heap.size w w' := by
  have hb0 := below_alloc (below_alloc (Below.refl w.heap.size w) (.cells #[.slice A Q.length c, .slice B T.length e] 27)) (.cells #[.slice none 0 0, .slice none 0 0] 27)
  have hbx := (BoxAt.new w 27 (.slice A Q.length c) (.slice B T.length e)).below (below_alloc (Below.refl _ _) (.cells #[.slice none 0 0, .slice none 0 0] 27))
  have hms : (w.alloc (.cells #[.slice A Q.length c, .slice B T.length e] 27)).heap.size = w.heap.size + 1 := by simp
  have hf0 := BoxAt.new (w.alloc (.cells #[.slice A Q.length c, .slice B T.length e] 27)) 27 (.slice none 0 0) (.slice none 0 0)
  rw [hms] at hf0
  have HX0 := Lib.hid hbx
  have HB0 := Lib.hid hb0
  have F0 := Lib.hid hf0
  have hc0 := hbx.c0
  have hc1 := hbx.c1
  have HV := Lib.hid (fun (W : World) (h : Below w.heap.size w W) => impl_ValidMesh.calls 2097156 A c Q B e T _ W (Kd.C_below hQ h) hq (Kd.C_below hT h) hqt (valid_f Q T _ (by omega)))
  generalize validB Q.length T = b at *
  clear hb0 hbx hf0 hms hQ hT hq hqt
  go_enter Try.func50, Try.ntmps50
  cases b
  · go_wp2_with (first
      | (go_at_call 43; refine (HV.out _ HB0.out).mono ?_; rintro E w1 ⟨rfl, hb⟩; have B1 := Lib.hid (below_then HB0.out hb HB0.out.size); have hf1 := F0.out.below hb; have f0 := hf1.c0; have f1 := hf1.c1; have z0 := blk_frozen hf1 0; have z1 := blk_frozen hf1 1; clear hb hc0 hc1)
      | fail)
    ((try simp only [Exit.inBlock, Exit.then]); refine bodyPost_ret (by simp [results, Try.results50, go_sem, f0, f1, setCell_same_of, World.cell?_setCell_other]; try rfl) rfl ?_)
    exact ⟨rfl, below_set (below_set B1.out (Nat.le_succ _)) (Nat.le_succ _)⟩
  · go_wp2_with (first
      | (go_at_call 43; refine (HV.out _ HB0.out).mono ?_; rintro E w1 ⟨rfl, hb⟩; have B1 := Lib.hid (below_then HB0.out hb HB0.out.size); have hx1 := HX0.out.below hb; have hd0 := hx1.c0; have hd1 := hx1.c1; have hf1 := F0.out.below hb; have f0 := hf1.c0; have f1 := hf1.c1; have z0 := blk_frozen hf1 0; have z1 := blk_frozen hf1 1; clear hb hc0 hc1)
      | fail)
    ((try simp only [Exit.inBlock, Exit.then]); refine bodyPost_ret (by simp [results, Try.results50, go_sem, f0, f1, setCell_same_of, World.cell?_setCell_other]; try rfl) rfl ?_)
    exact ⟨rfl, below_set (below_set B1.out (Nat.le_succ _)) (Nat.le_succ _)⟩

set_option maxHeartbeats 1000000 in
set_option maxRecDepth 100000 in
theorem spec_l02Is_reads (g : Nat) (A : Option Addr) (c : Nat) (Q : List S42) (B : Option Addr) (e : Nat) (T : List (List Int)) (w : World) (hg : BoxAt w g 27 (.slice A Q.length c) (.slice B T.length e)) (hT : Kd.C (Kd.slice 2 (Kd.int .i64)) w B T.length T) (hqt : T.length ≤ e) :
    Calls Try.prog 69 #[.pointer (some ⟨g, 0, none⟩)] w fun E w' => E = .returned (.bool (validB Q.length T)) ∧ Below w.heap.size w w' := by
  have hc0 := hg.c0
  have hc1 := hg.c1
  have hvd : validB Q.length T = (decide (Q.length ≤ 64) && decide (T.length ≤ 128) && T.all (triB Q.length)) := rfl
  by_cases hn : Q.length ≤ 64
  · by_cases ht : T.length ≤ 128
    · have e1 : ¬ ((64 : Int) < (Q.length : Int)) := by omega
      have e2 : ¬ ((128 : Int) < (T.length : Int)) := by omega
      rw [hvd, decide_eq_true hn, decide_eq_true ht, Bool.true_and, Bool.true_and]
      clear hvd
      have HG := Lib.hid hg
      have HC := Lib.hid hT
      clear hg hT
      go_enter Try.func69, Try.ntmps69
      go_wp2_with fail
      clear hc0 hc1
      go_loopw [3] (fun k wr => ∃ (i : Nat), i ≤ T.length ∧ k = .int .i64 (i : Int) ∧ Hid (Below w.heap.size w wr) ∧ Hid ((T.drop i).all (triB Q.length) = T.all (triB Q.length))) (fun k _ => T.length - (intOf k).toNat)
      case atStart => exact ⟨0, Nat.zero_le _, rfl, Lib.hid (Below.refl _ _), Lib.hid rfl⟩
      case round =>
        obtain ⟨i, hi, rfl, HB, HA⟩ := hrel
        have hg' := HG.out.below HB.out
        have hc0 := hg'.c0
        have hc1 := hg'.c1
        clear hg'
        by_cases hlt : i < T.length
        · have b1 : (i : Int) < (T.length : Int) := by omega
          have b2 : (0 : Int) ≤ (i : Int) := by omega
          have b3 : (i : Int) < 9223372036854775807 := by omega
          obtain ⟨ba, C, cc, rfl, tc, hcc, hC⟩ := at_L3 (Kd.C_below HC.out HB.out) (i : Int) (by omega) (by omega)
          rw [rdL T i hlt] at tc hcc hC
          rw [Int.toNat_natCast] at tc
          have hd : T.drop i = T[i] :: T.drop (i + 1) := List.drop_eq_getElem_cons hlt
          have HT3 := Lib.hid (fun (W : World) (h : Below wr.heap.size wr W) => spec_l02Triangle.calls 2 C cc T[i] (Q.length : Int) (triB Q.length T[i]) W (Kd.C_below hC h) hcc (triangle_f Q.length hn T[i] 2 (by omega)))
          have ha := HA.out
          rw [hd, List.all_cons] at ha
          have HA2 := Lib.hid ha
          clear hd ha HA hC hcc
          generalize T[i] = t at *
          have HK := Lib.hid (fun (W : World) (h : Below wr.heap.size wr W) => (⟨oldc h hc0, oldc h hc1, oldc h tc, h⟩ : W.cell? ⟨g, 0, none⟩ = some (.slice A Q.length c) ∧ W.cell? ⟨g, 1, none⟩ = some (.slice (some ba) T.length e) ∧ W.cell? (ba.add i) = some (.slice C t.length cc) ∧ Below wr.heap.size wr W))
          have S1 := HK.out wr (Below.refl _ _)
          go_wp2_with fail
          clear hc0 hc1 tc
          go_region_held3 (fun W => W.cell? ⟨g, 0, none⟩ = some (.slice A Q.length c) ∧ W.cell? ⟨g, 1, none⟩ = some (.slice (some ba) T.length e) ∧ W.cell? (ba.add i) = some (.slice C t.length cc) ∧ Below wr.heap.size wr W)
            (first | with_reducible assumption | (with_reducible exact HK.out _ (Below.drew (And.right (And.right (And.right (by with_reducible assumption)))))) | (with_reducible exact HK.out _ (below_then (And.right (And.right (And.right (by with_reducible assumption)))) (Drawn0.below (by with_reducible assumption)) (Below.size (And.right (And.right (And.right (by with_reducible assumption))))))))
            (first | (go_at_call 102; (with_reducible refine (HT3.out _ (And.right (And.right (And.right (by with_reducible assumption))))).mono ?_); rintro E w2 ⟨rfl, hd2⟩))
          rename_i hH
          have hbw := hH.2.2.2
          have HB2 := Lib.hid (below_then HB.out hbw HB.out.size)
          clear hH hbw S1 HK HT3
          clear hd2 e1 e2
          generalize triB Q.length t = q at *
          clear HG HC b1 b2 b3
          (try simp only [Exit.then])
          refine ‹∀ (a : Act) (w : World), Code.wp _ (Code.cond _ _ _) _ a w → _› _ _ ?_
          cases q
          · go_wp2_with fail
            go_ret
            exact ⟨by rw [← HA2.out]; rfl, HB2.out⟩
          · go_wp2_with fail
            exact ⟨⟨i + 1, hlt, by simp, HB2, Lib.hid (by rw [← HA2.out, Bool.true_and])⟩, by simp [intOf]; omega⟩
        · obtain rfl : i = T.length := by omega
          have hh := HA.out
          rw [List.drop_length] at hh
          go_wp2_with fail
          go_ret
          exact ⟨by rw [← hh]; rfl, HB.out⟩
    · have e1 : ¬ ((64 : Int) < (Q.length : Int)) := by omega
      have e2 : ((128 : Int) < (T.length : Int)) := by omega
      rw [hvd, decide_eq_false ht, Bool.and_false, Bool.false_and]
      go_enter Try.func69, Try.ntmps69
      go_wp2_with fail
      go_ret
      exact ⟨rfl, Below.refl _ _⟩
  · have e1 : ((64 : Int) < (Q.length : Int)) := by omega
    rw [hvd, decide_eq_false hn, Bool.false_and, Bool.false_and]
    go_enter Try.func69, Try.ntmps69
    go_wp2_with fail
    go_ret
    exact ⟨rfl, Below.refl _ _⟩

set_option maxHeartbeats 1000000 in
theorem spec_l02Give (A : Option Addr) (c : Nat) (Q : List S42) (B : Option Addr) (e : Nat) (T : List (List Int)) (w : World) (hT : Kd.C (Kd.slice 2 (Kd.int .i64)) w B T.length T) (hqt : T.length ≤ e) :
    Calls Try.prog 57 #[.agg #[.slice A Q.length c, .slice B T.length e]] w fun E w' => E = .returned (.tuple #[giveV (validB Q.length T) (.slice A Q.length c) (.slice B T.length e), .bool (validB Q.length T)]) ∧ Below w.heap.size w w' := by
  have hb0 := below_alloc (below_alloc (Below.refl w.heap.size w) (.cells #[.slice A Q.length c, .slice B T.length e] 27)) (.cells #[.slice none 0 0, .slice none 0 0] 27)
  have hbx := (BoxAt.new w 27 (.slice A Q.length c) (.slice B T.length e)).below (below_alloc (Below.refl _ _) (.cells #[.slice none 0 0, .slice none 0 0] 27))
  have hms : (w.alloc (.cells #[.slice A Q.length c, .slice B T.length e] 27)).heap.size = w.heap.size + 1 := by simp
  have hf0 := BoxAt.new (w.alloc (.cells #[.slice A Q.length c, .slice B T.length e] 27)) 27 (.slice none 0 0) (.slice none 0 0)
  rw [hms] at hf0
  have HX0 := Lib.hid hbx
  have HB0 := Lib.hid hb0
  have F0 := Lib.hid hf0
  have HV := Lib.hid (fun (W : World) (hx : BoxAt W w.heap.size 27 (.slice A Q.length c) (.slice B T.length e)) (h : Below w.heap.size w W) => spec_l02Is_reads w.heap.size A c Q B e T W hx (Kd.C_below hT h) hqt)
  generalize validB Q.length T = b at *
  clear hb0 hbx hf0 hms hT hqt
  go_enter Try.func57, Try.ntmps57
  cases b
  · go_wp2_with (first
      | (go_at_call 69; refine (HV.out _ HX0.out HB0.out).mono ?_; rintro E w1 ⟨rfl, hb⟩; have B1 := Lib.hid (below_then HB0.out hb HB0.out.size); have hf1 := F0.out.below hb; have f0 := hf1.c0; have f1 := hf1.c1; have z0 := blk_frozen hf1 0; have z1 := blk_frozen hf1 1; clear hb)
      | fail)
    ((try simp only [Exit.inBlock, Exit.then]); refine bodyPost_ret (by simp [results, Try.results57, go_sem, f0, f1, setCell_same_of, World.cell?_setCell_other]; try rfl) rfl ?_)
    exact ⟨rfl, below_set (below_set B1.out (Nat.le_succ _)) (Nat.le_succ _)⟩
  · go_wp2_with (first
      | (go_at_call 69; refine (HV.out _ HX0.out HB0.out).mono ?_; rintro E w1 ⟨rfl, hb⟩; have B1 := Lib.hid (below_then HB0.out hb HB0.out.size); have hx1 := HX0.out.below hb; have hd0 := hx1.c0; have hd1 := hx1.c1; have hf1 := F0.out.below hb; have f0 := hf1.c0; have f1 := hf1.c1; have z0 := blk_frozen hf1 0; have z1 := blk_frozen hf1 1; clear hb)
      | fail)
    ((try simp only [Exit.inBlock, Exit.then]); refine bodyPost_ret (by simp [results, Try.results57, go_sem, f0, f1, setCell_same_of, World.cell?_setCell_other]; try rfl) rfl ?_)
    exact ⟨rfl, below_set (below_set B1.out (Nat.le_succ _)) (Nat.le_succ _)⟩

end Go.Proofs.Ytepilofcionekaa
namespace Go.Proofs.Ytepilofcionekaa
open Fl Go.RowKit Go.Proofs.YtepilofcionekaaW.PrintWords Go.Proofs.YtepilofcionekaaW.PrintLast Go.Proofs.YtepilofcionekaaW.PrintMore Go.Proofs.Ytepilofcionekaa.PMesh Msh Mp
attribute [local go_sem] max2_int min2_int max_two min_two
set_option linter.unusedVariables false
set_option linter.unusedSimpArgs false

theorem mx_nat2 (a b : Nat) : (if a < b then (b : Int) else (a : Int)) = ((max a b : Nat) : Int) := by split <;> omega
theorem mn_nat2 (a b : Nat) : (if b < a then (b : Int) else (a : Int)) = ((min a b : Nat) : Int) := by split <;> omega

theorem impl_edgeOf (a b : Nat) (w : World) : Calls Try.prog 80 #[.int .i64 (a : Int), .int .i64 (b : Int)] w fun E w' => E = .returned (eval2 (edgeN (a, b))) ∧ Below w.heap.size w w' := by
  have hb0 := below_alloc (Below.refl w.heap.size w) (.cells #[.int .i64 0, .int .i64 0] 106)
  have hM := mx_nat2 a b
  have hm := mn_nat2 a b
  unfold edgeN eval2
  dsimp only
  generalize max a b = M at *
  generalize min a b = m at *
  have B0 := Lib.hid hb0
  clear hb0
  go_enter Try.func80, Try.ntmps80
  have hbx := BoxAt.new w 106 (.int .i64 (m : Int)) (.int .i64 (M : Int))
  have f0 := hbx.c0
  have f1 := hbx.c1
  have hb1 := below_alloc (Below.refl w.heap.size w) (.cells #[.int .i64 (m : Int), .int .i64 (M : Int)] 106)
  have B1 := Lib.hid hb1
  clear hbx hb1
  go_wp2_with fail
  ((try simp only [Exit.inBlock, Exit.then]); refine bodyPost_ret (by simp [results, Try.results80, go_sem, f0, f1]; try rfl) rfl ?_)
  exact ⟨rfl, B1.out⟩

/-! ### when a mesh is a sheet -/
theorem count_le_one {α : Type} [BEq α] [LawfulBEq α] : ∀ (l : List α) (a : α), l.Nodup → l.count a ≤ 1
  | [], a, _ => by simp
  | x :: r, a, h => by
    obtain ⟨h1, h2⟩ := List.nodup_cons.1 h
    rw [List.count_cons]
    by_cases hx : (x == a) = true
    · have hxa : x = a := by simpa using hx
      subst hxa
      have : r.count x = 0 := List.count_eq_zero.2 h1
      simp [this]
    · have := count_le_one r a h2
      simp only [hx]
      simpa using this
def cntE (ps : List (Nat × Nat)) (e : Nat × Nat) : Nat := (ps.map edgeN).count e
theorem cntE_le (e : Nat × Nat) : ∀ ps : List (Nat × Nat), cntE ps e ≤ ps.count e + ps.count (e.2, e.1)
  | [] => by simp [cntE]
  | q :: r => by
    have ih := cntE_le e r
    unfold cntE at ih ⊢
    rw [List.map_cons, List.count_cons, List.count_cons, List.count_cons]
    by_cases h : edgeN q = e
    · have hq : q = e ∨ q = (e.2, e.1) := by
        obtain ⟨q1, q2⟩ := q
        obtain ⟨e1, e2⟩ := e
        simp only [edgeN, Prod.mk.injEq] at h ⊢
        omega
      rcases hq with hq | hq
      · have : (q == e) = true := by simpa using hq
        rw [if_pos this]
        split <;> split <;> omega
      · have : (q == (e.2, e.1)) = true := by simpa using hq
        rw [if_pos this]
        split <;> split <;> omega
    · have : ¬ ((edgeN q == e) = true) := by simpa using h
      rw [if_neg this]
      omega
theorem cntE_two {ps : List (Nat × Nat)} (h : ps.Nodup) (e : Nat × Nat) : cntE ps e ≤ 2 := by
  have h1 := cntE_le e ps
  have h2 := count_le_one ps e h
  have h3 := count_le_one ps (e.2, e.1) h
  omega
theorem cntE_len (ps : List (Nat × Nat)) (e : Nat × Nat) : cntE ps e ≤ ps.length := by
  have := List.count_le_length (a := e) (l := ps.map edgeN)
  rwa [List.length_map] at this
theorem cntE_snoc (ps : List (Nat × Nat)) (p : Nat × Nat) : upd (cntE ps) (edgeN p) (cntE ps (edgeN p) + 1) = cntE (ps ++ [p]) := by
  funext q
  unfold upd cntE
  rw [List.map_append, List.count_append]
  by_cases h : q = edgeN p
  · subst h; simp
  · rw [if_neg h]
    have : ¬ edgeN p = q := fun e => h e.symm
    simp [this]
def memE (ps : List (Nat × Nat)) (p : Nat × Nat) : Bool := decide (p ∈ ps)
theorem memE_snoc (ps : List (Nat × Nat)) (p : Nat × Nat) : upd (memE ps) p true = memE (ps ++ [p]) := by
  funext q
  unfold upd memE
  by_cases h : q = p
  · subst h; simp
  · simp [h]
/-- Whether a mesh is a sheet. -/
def sheetB (n : Nat) (T : List (List Int)) : Bool := validB n T && decide (tways T).Nodup
theorem ways_take (T : List (List Int)) (i : Nat) (h : i < T.length) : tways T = tways (T.take i) ++ ways3 T[i] ++ tways (T.drop (i + 1)) := by
  have : T = T.take i ++ T[i] :: T.drop (i + 1) := by rw [← List.drop_eq_getElem_cons h, List.take_append_drop]
  conv => lhs; rw [this]
  unfold tways
  rw [List.flatMap_append, List.flatMap_cons, List.append_assoc]
end Go.Proofs.Ytepilofcionekaa
namespace Go.Proofs.Ytepilofcionekaa
open Fl Go.RowKit Go.Proofs.YtepilofcionekaaW.PrintWords Go.Proofs.YtepilofcionekaaW.PrintLast Go.Proofs.YtepilofcionekaaW.PrintMore Go.Proofs.Ytepilofcionekaa.PMesh Msh Mp
set_option linter.unusedVariables false
set_option linter.unusedSimpArgs false

theorem memE_nil : (fun _ => elB.z) = memE [] := by funext p; simp [memE, elB]
theorem cntE_nil : (fun _ => elI.z) = cntE [] := by funext p; simp [cntE, elI]

theorem grown_setCell (w : World) (p : Addr) (v : Value) : w.grownBy (w.setCell p v) (some p.block) := ⟨rfl, rfl, rfl, by simp [World.setCell], fun i _ hi => Below.heap_setCell w p v i (fun e => hi (by rw [e]))⟩

/-- A block of cells is no map. -/
theorem Mp.MapF.ne {e : TypeId} {α : Type} {E : El e α} {w : World} {b n : Nat} {f : Nat × Nat → α} (h : MapF E w b n f) {g : Nat} {t : TypeId} {cs : Array Value} (hg : w.heap[g]? = some (.cells cs t (0, 0))) : b ≠ g := by
  rintro rfl
  obtain ⟨D, ⟨es, clock, hb, _⟩, _⟩ := h
  rw [hb] at hg
  cases hg

set_option maxHeartbeats 4000000 in
set_option maxRecDepth 100000 in
theorem impl_IsSheet (A : Option Addr) (c : Nat) (Q : List S42) (B : Option Addr) (e : Nat) (T : List (List Int)) (w : World) (hQ : Kd.C k42 w A Q.length Q) (hq : Q.length ≤ c) (hT : Kd.C (Kd.slice 2 (Kd.int .i64)) w B T.length T) (hqt : T.length ≤ e) :
    Calls Try.prog 34 #[.agg #[.slice A Q.length c, .slice B T.length e]] w fun E w' => E = .returned (.bool (sheetB Q.length T)) ∧ Below w.heap.size w w' := by
  have hb0 := below_alloc (Below.refl w.heap.size w) (.cells #[.slice A Q.length c, .slice B T.length e] 27)
  have hbx := BoxAt.new w 27 (.slice A Q.length c) (.slice B T.length e)
  have HX0 := Lib.hid hbx
  have HB0 := Lib.hid hb0
  have hc0 := hbx.c0
  have hc1 := hbx.c1
  have HV := Lib.hid (fun (W : World) (h : Below w.heap.size w W) => impl_ValidMesh.calls 2097156 A c Q B e T _ W (Kd.C_below hQ h) hq (Kd.C_below hT h) hqt (valid_f Q T _ (by omega)))
  by_cases hv : validB Q.length T = true
  · obtain ⟨hn, ht, hta⟩ := validB_iff.1 hv
    have hr : sheetB Q.length T = decide (tways T).Nodup := by unfold sheetB; rw [hv, Bool.true_and]
    have HTR := Lib.hid (valid_triE hv)
    have HT := Lib.hid hT
    have HWL := Lib.hid (ways_len T)
    have hmk := @run_makeMap Try.prog
    rw [hv] at HV
    rw [hr]
    clear hr hv hQ hq hT hqt hb0 hbx hta
    generalize Q.length = n at *
    go_enter Try.func34, Try.ntmps34
    go_wp2_with (first
      | (go_at_call 43; refine (HV.out _ HB0.out).mono ?_; rintro E w1 ⟨rfl, hb⟩; have B1 := Lib.hid (below_then HB0.out hb HB0.out.size); have X1 := Lib.hid (HX0.out.below (below_step hb (below_alloc (below_alloc (Below.refl _ _) (.map #[] 0)) (.map #[] 0)))); have x1 := X1.out.c1; clear hb hc0 hc1)
      | fail)
    obtain ⟨w2, hw2⟩ : ∃ W, W = (w1.alloc (.map #[] 0)).alloc (.map #[] 0) := ⟨_, rfl⟩
    have es1 : (w1.alloc (.map #[] 0)).heap.size = w1.heap.size + 1 := by simp
    have hb2 : Below w1.heap.size w1 w2 := by rw [hw2]; exact below_alloc (below_alloc (Below.refl _ _) _) _
    have B2 := Lib.hid (below_step B1.out hb2)
    have G2 := Lib.hid (show MapF elB w2 w1.heap.size (3 * 0) (memE (tways (T.take 0))) by rw [hw2]; exact memE_nil ▸ (MapF.made w1).below (below_alloc (Below.refl _ _) _))
    have N2 := Lib.hid (show MapF elI w2 (w1.heap.size + 1) (3 * 0) (cntE (tways (T.take 0))) by rw [hw2, ← es1]; exact cntE_nil ▸ MapF.made _)
    have hgm : w.heap.size ≤ w1.heap.size := B1.out.size
    rw [← hw2]
    clear hw2 es1 hb2 x1 X1 B1 HV HB0 HX0 hmk
    obtain ⟨gn, hgn⟩ : ∃ x, x = w1.heap.size + 1 := ⟨_, rfl⟩
    rw [← hgn] at N2 ⊢
    have hne : w1.heap.size ≠ gn := by omega
    have hgn2 : w.heap.size ≤ gn := by omega
    clear hgn
    generalize w1.heap.size = gm at *
    go_loopw [18] (fun k wr => ∃ i : Nat, i ≤ T.length ∧ k = .int .i64 (i : Int) ∧ Hid (Below w.heap.size w wr) ∧ Hid (MapF elB wr gm (3 * i) (memE (tways (T.take i)))) ∧ Hid (MapF elI wr gn (3 * i) (cntE (tways (T.take i)))) ∧ Hid (tways (T.take i)).Nodup) (fun k _ => T.length - (intOf k).toNat)
    case atStart => exact ⟨0, Nat.zero_le _, rfl, B2, G2, N2, Lib.hid (by simp [tways])⟩
    case round =>
      clear B2 G2 N2
      obtain ⟨i, hi, rfl, HB, HG, HN, HD⟩ := hrel
      by_cases hlt : i < T.length
      · have b1 : (i : Int) < (T.length : Int) := by omega
        have b2 : (0 : Int) ≤ (i : Int) := by omega
        have b3 : (i : Int) < 9223372036854775807 := by omega
        obtain ⟨ba, C, cc, rfl, tc, hcc, hC⟩ := at_L3 HT.out (i : Int) (by omega) (by omega)
        rw [rdL T i hlt] at tc hcc hC
        rw [Int.toNat_natCast] at tc
        obtain ⟨a1, a2, a3, et, h1, h2, h3, _⟩ := tri_natE (HTR.out T[i] (List.getElem_mem hlt))
        have htk : tways (T.take (i + 1)) = tways (T.take i) ++ [(a1, a2), (a2, a3), (a3, a1)] := by
          rw [List.take_succ_eq_append_getElem hlt, et, ways_snoc, ways3_nat]
        have hpre := ways_take T i hlt
        rw [et, ways3_nat] at hpre
        rw [et] at tc hcc hC
        replace tc : wr.cell? (ba.add i) = some (.slice C 3 cc) := oldc HB.out tc
        obtain ⟨ad, rfl, _⟩ := Kd.at_int hC 0 (by omega) (by simp)
        have HC := Lib.hid hC
        have HK := Lib.hid htk
        have HPR := Lib.hid hpre
        have htl : (tways (T.take i)).length = 3 * i := by rw [ways_len, List.length_take]; omega
        generalize tways (T.take i) = pr at *
        clear et htk hpre hC hcc
        go_wp2_with fail
        clear tc
        go_loopw [22] (fun k wq => ∃ j : Nat, j ≤ 3 ∧ k = .int .i64 (j : Int) ∧ Hid (Below w.heap.size w wq) ∧ Hid (MapF elB wq gm (3 * i + j) (memE (pr ++ [(a1, a2), (a2, a3), (a3, a1)].take j))) ∧ Hid (MapF elI wq gn (3 * i + j) (cntE (pr ++ [(a1, a2), (a2, a3), (a3, a1)].take j))) ∧ Hid (pr ++ [(a1, a2), (a2, a3), (a3, a1)].take j).Nodup) (fun k _ => 3 - (intOf k).toNat)
        case atStart => exact ⟨0, Nat.zero_le _, rfl, HB, by simpa using HG, by simpa using HN, by simpa using HD⟩
        case round =>
          clear HB HG HN HD b1 b2 b3
          obtain ⟨j, hj, rfl, HB, HG, HN, HD⟩ := hrel
          by_cases hjl : j < 3
          · have b1 : (j : Int) < 3 := by omega
            have b2 : (0 : Int) ≤ (j : Int) := by omega
            have b3 : (j : Int) < 9223372036854775807 := by omega
            obtain ⟨p, q, j1, hj1, hjm, hp, hq, hpn, hqn, hnx, rest, hrest⟩ : ∃ p q j1 : Nat, j1 < 3 ∧ Int.tmod (wrap64 ((j : Int) + 1)) 3 = (j1 : Int) ∧ rd [(a1 : Int), (a2 : Int), (a3 : Int)] (j : Int) = (p : Int) ∧ rd [(a1 : Int), (a2 : Int), (a3 : Int)] (j1 : Int) = (q : Int) ∧ p < n ∧ q < n ∧ [(a1, a2), (a2, a3), (a3, a1)].take (j + 1) = [(a1, a2), (a2, a3), (a3, a1)].take j ++ [(p, q)] ∧ ∃ rest, [(a1, a2), (a2, a3), (a3, a1)] = [(a1, a2), (a2, a3), (a3, a1)].take j ++ [(p, q)] ++ rest := by
              rcases (by omega : j = 0 ∨ j = 1 ∨ j = 2) with rfl | rfl | rfl
              · exact ⟨a1, a2, 1, by omega, by rw [wrap_fit (by omega) (by omega)]; rfl, rfl, rfl, h1, h2, rfl, _, rfl⟩
              · exact ⟨a2, a3, 2, by omega, by rw [wrap_fit (by omega) (by omega)]; rfl, rfl, rfl, h2, h3, rfl, _, rfl⟩
              · exact ⟨a3, a1, 0, by omega, by rw [wrap_fit (by omega) (by omega)]; rfl, rfl, rfl, h3, h1, rfl, _, rfl⟩
            have HJM := Lib.hid hjm
            clear hjm
            obtain ⟨_, e0, cp⟩ := Kd.at_int HC.out (j : Int) b2 (by simp; omega)
            cases e0
            obtain ⟨_, e0, cq⟩ := Kd.at_int HC.out (j1 : Int) (by omega) (by simp; omega)
            cases e0
            rw [Int.toNat_natCast, hp] at cp
            rw [Int.toNat_natCast, hq] at cq
            have cp := Lib.hid cp
            have cq := Lib.hid cq
            have hpl : (pr ++ [(a1, a2), (a2, a3), (a3, a1)].take j).length = 3 * i + j := by simp; omega
            have HNX : Hid (pr ++ [(a1, a2), (a2, a3), (a3, a1)].take (j + 1) = (pr ++ [(a1, a2), (a2, a3), (a3, a1)].take j) ++ [(p, q)]) := Lib.hid (by rw [hnx, List.append_assoc])
            have HPD : Hid ((tways T).Nodup → ((pr ++ [(a1, a2), (a2, a3), (a3, a1)].take j) ++ [(p, q)]).Nodup) := Lib.hid (by
              intro h
              rw [HPR.out, hrest] at h
              have h' : (((pr ++ [(a1, a2), (a2, a3), (a3, a1)].take j) ++ [(p, q)]) ++ (rest ++ tways (T.drop (i + 1)))).Nodup := by simpa [List.append_assoc] using h
              exact (List.nodup_append.1 h').1)
            generalize pr ++ [(a1, a2), (a2, a3), (a3, a1)].take j = ps at *
            obtain ⟨e1, e2, hee⟩ : ∃ e1 e2, edgeN (p, q) = (e1, e2) := ⟨_, _, rfl⟩
            have he1 : e1 < n := by have := congrArg Prod.fst hee; simp only [edgeN] at this; omega
            have he2 : e2 < n := by have := congrArg Prod.snd hee; simp only [edgeN] at this; omega
            have hps : Small (p, q) := ⟨by show p ≤ 1000; omega, by show q ≤ 1000; omega⟩
            have hes : Small (e1, e2) := ⟨by show e1 ≤ 1000; omega, by show e2 ≤ 1000; omega⟩
            have HED := Lib.hid (fun W => by have := impl_edgeOf p q W; rw [hee] at this; exact this : ∀ W : World, Calls Try.prog 80 #[.int .i64 (p : Int), .int .i64 (q : Int)] W fun E w' => E = .returned (.agg #[.int .i64 (e1 : Int), .int .i64 (e2 : Int)]) ∧ Below W.heap.size W w')
            have HEE := Lib.hid hee
            have hcl := cntE_len ps (e1, e2)
            have c1 : (j1 : Int) < 3 := by omega
            have c2 : (0 : Int) ≤ (j1 : Int) := by omega
            clear hee hp hq hnx hrest
            go_wp2_with fail
            have hjm := HJM.out
            have CB := Lib.hid (Below.drew HB.out)
            have CG := Lib.hid (HG.out.below (Below.drew (Below.refl _ _)))
            have CN := Lib.hid (HN.out.below (Below.drew (Below.refl _ _)))
            refine start_ (n := 13) (S := fun w' => w'.cell? (ad.add j) = some (.int .i64 (p : Int)) ∧ w'.cell? (ad.add j1) = some (.int .i64 (q : Int))) (ds := [12]) #[false, false, false, false, false, false, false, false, false, false, false, false, false] (by kernel_rfl) rfl rfl ⟨oldc CB.out cp.out, oldc CB.out cq.out⟩ (fun hHeld => ?_)
            generalize wr.drew = w10 at CB CG CN hHeld ⊢
            clear HB HG HN
            refine pure_ (i := 0) (N := (some 25)) (v := ?_) (a' := ?_) #[true, false, false, false, false, false, false, false, false, false, false, false, false] rfl rfl (by kernel_rfl) (fun _ _ _ h => h) (Or.inl ⟨by rfl, ?_⟩) ?_ ?_
            rotate_left
            · intro w'
              go_simp
              with_reducible rfl
            rotate_left
            · simp only [Act.put, List.setIfInBounds_toArray, List.set_cons_zero, List.set_cons_succ, i64_w, i32_w]; rfl
            refine pure_ (i := 1) (N := (some 26)) (v := ?_) (a' := ?_) #[true, true, false, false, false, false, false, false, false, false, false, false, false] rfl rfl (by kernel_rfl) (fun _ _ _ h => h) (Or.inl ⟨by rfl, ?_⟩) ?_ ?_
            rotate_left
            · intro w'
              go_simp
              with_reducible rfl
            rotate_left
            · simp only [Act.put, List.setIfInBounds_toArray, List.set_cons_zero, List.set_cons_succ, i64_w, i32_w]; rfl
            refine pure_ (i := 2) (N := (some 27)) (v := ?_) (a' := ?_) #[true, true, true, false, false, false, false, false, false, false, false, false, false] rfl rfl (by kernel_rfl) (fun _ _ _ h => h) (Or.inl ⟨by rfl, ?_⟩) ?_ ?_
            rotate_left
            · intro w'
              go_simp
              with_reducible rfl
            rotate_left
            · simp only [Act.put, List.setIfInBounds_toArray, List.set_cons_zero, List.set_cons_succ, i64_w, i32_w]; rfl
            refine pure_ (i := 4) (N := (some 29)) (v := ?_) (a' := ?_) #[true, true, true, false, true, false, false, false, false, false, false, false, false] rfl rfl (by kernel_rfl) (fun _ _ _ h => h) (Or.inl ⟨by rfl, ?_⟩) ?_ ?_
            rotate_left
            · intro w'
              go_simp
              with_reducible rfl
            rotate_left
            · simp only [Act.put, List.setIfInBounds_toArray, List.set_cons_zero, List.set_cons_succ, i64_w, i32_w]; rfl
            refine pure_ (i := 5) (N := (some 30)) (v := ?_) (a' := ?_) #[true, true, true, false, true, true, false, false, false, false, false, false, false] rfl rfl (by kernel_rfl) (fun _ _ _ h => h) (Or.inl ⟨by rfl, ?_⟩) ?_ ?_
            rotate_left
            · intro w'
              go_simp
              with_reducible rfl
            rotate_left
            · simp only [Act.put, List.setIfInBounds_toArray, List.set_cons_zero, List.set_cons_succ, i64_w, i32_w]; rfl
            refine pure_ (i := 6) (N := (some 31)) (v := ?_) (a' := ?_) #[true, true, true, false, true, true, true, false, false, false, false, false, false] rfl rfl (by kernel_rfl) (fun _ _ _ h => h) (Or.inl ⟨by rfl, ?_⟩) ?_ ?_
            rotate_left
            · intro w'
              go_simp
              with_reducible rfl
            rotate_left
            · simp only [Act.put, List.setIfInBounds_toArray, List.set_cons_zero, List.set_cons_succ, i64_w, i32_w]; rfl
            refine pure_ (i := 7) (N := (some 32)) (v := ?_) (a' := ?_) #[true, true, true, false, true, true, true, true, false, false, false, false, false] rfl rfl (by kernel_rfl) (fun _ _ _ h => h) (Or.inl ⟨by rfl, ?_⟩) ?_ ?_
            rotate_left
            · intro w'
              go_simp
              with_reducible rfl
            rotate_left
            · simp only [Act.put, List.setIfInBounds_toArray, List.set_cons_zero, List.set_cons_succ, i64_w, i32_w]; rfl
            refine pure_ (i := 8) (N := (some 33)) (v := ?_) (a' := ?_) #[true, true, true, false, true, true, true, true, true, false, false, false, false] rfl rfl (by kernel_rfl) (fun _ _ _ h => h) (Or.inl ⟨by rfl, ?_⟩) ?_ ?_
            rotate_left
            · intro w'
              go_simp
              with_reducible rfl
            rotate_left
            · simp only [Act.put, List.setIfInBounds_toArray, List.set_cons_zero, List.set_cons_succ, i64_w, i32_w]; rfl
            refine take_ (i := 3) (N := (some 28)) (v := ?_) (a' := ?_) #[true, true, true, true, true, true, true, true, true, false, false, false, false] rfl rfl (by kernel_rfl) (fun _ _ _ h => h) (Or.inl ⟨by rfl, ?_⟩) hHeld ?_ ?_
            rotate_left
            · intro w' hSw
              (try dsimp only at hSw)
              go_simp
              with_reducible rfl
            rotate_left
            · simp only [Act.put, List.setIfInBounds_toArray, List.set_cons_zero, List.set_cons_succ, i64_w, i32_w]; rfl
            refine take_ (i := 9) (N := (some 34)) (v := ?_) (a' := ?_) #[true, true, true, true, true, true, true, true, true, true, false, false, false] rfl rfl (by kernel_rfl) (fun _ _ _ h => h) (Or.inl ⟨by rfl, ?_⟩) hHeld ?_ ?_
            rotate_left
            · intro w' hSw
              (try dsimp only at hSw)
              go_simp
              with_reducible rfl
            rotate_left
            · simp only [Act.put, List.setIfInBounds_toArray, List.set_cons_zero, List.set_cons_succ, i64_w, i32_w]; rfl
            refine pure_ (i := 10) (N := (some 35)) (v := ?_) (a' := ?_) #[true, true, true, true, true, true, true, true, true, true, true, false, false] rfl rfl (by kernel_rfl) (fun _ _ _ h => h) (Or.inl ⟨by rfl, ?_⟩) ?_ ?_
            rotate_left
            · intro w'
              go_simp
              with_reducible rfl
            rotate_left
            · simp only [Act.put, List.setIfInBounds_toArray, List.set_cons_zero, List.set_cons_succ, i64_w, i32_w]; rfl
            refine one_ (i := 11) (N := (some 8)) #[true, true, true, true, true, true, true, true, true, true, true, true, false] rfl rfl (by kernel_rfl) (by decide) (fun K hK => ?_)
            refine box_step ?hg (N := 8) ?hd (cs := #[.int .i64 0, .int .i64 0]) (t := 106) ?hr ?_; (case hd => rfl); (case hg => rfl); (case hr => first | (go_simp; done) | (go_simp; rfl))
            intro g8 hgn wz hbox hb
            have DB := Lib.hid (below_step CB.out hb)
            have DG := Lib.hid (CG.out.below hb)
            have DN := Lib.hid (CN.out.below hb)
            have D8 := Lib.hid (show BoxAt wz g8 106 (.int .i64 0) (.int .i64 0) from hbox)
            have h8 : w.heap.size ≤ g8 := by rw [hgn]; exact CB.out.size
            clear hb hbox hgn CB CG CN
            refine hK.out _ _ ⟨oldc DB.out cp.out, oldc DB.out cq.out⟩ (fun hHeld => ?_)
            clear hK K
            refine norm_ (a' := ?_) ?_ ?_
            rotate_left
            · show Act.put _ (some 8) _ = _
              simp only [Act.put, List.setIfInBounds_toArray, List.set_cons_zero, List.set_cons_succ, i64_w, i32_w]
              rfl
            refine last_ (i := 12) (N := none) #[true, true, true, true, true, true, true, true, true, true, true, true, true] rfl rfl (by kernel_rfl) (by decide) (fun K hK => ?_)
            have s0 := D8.out.c0; have s1 := D8.out.c1; have z0 := blk_frozen D8.out 0; have z1 := blk_frozen D8.out 1
            refine skip_ (w1 := ?_) (by rfl) rfl ?_ ?_
            rotate_left
            · go_simp
              rfl
            refine hK.out _ _ ?_
            clear hK K
            clear s0 s1 z0 z1
            refine done_ (by kernel_rfl) ?_
            clear hjm hHeld b1 b2 b3 c1 c2
            have n1 : gm ≠ g8 := DG.out.ne D8.out
            have n2 : gn ≠ g8 := DN.out.ne D8.out
            obtain ⟨w4, hw4⟩ : ∃ W, W = (wz.setCell ⟨g8, 0, none⟩ (.int .i64 (p : Int))).setCell ⟨g8, 1, none⟩ (.int .i64 (q : Int)) := ⟨_, rfl⟩
            have hg4 : wz.grownBy w4 (some g8) := by rw [hw4]; exact (grown_setCell wz ⟨g8, 0, none⟩ _).trans (grown_setCell _ ⟨g8, 1, none⟩ _)
            have E8 := Lib.hid (show BoxAt w4 g8 106 (.int .i64 (p : Int)) (.int .i64 (q : Int)) by rw [hw4]; exact blk_put (blk_put D8.out 0 _ rfl) 1 _ rfl)
            have EB := Lib.hid (pw_below_grown DB.out (some g8) DB.out.size hg4 (fun k hk => by injection hk with hk; omega))
            have EG := Lib.hid (DG.out.kept hg4 (by intro h; injection h with h; exact n1 h))
            have EN := Lib.hid (DN.out.kept hg4 (by intro h; injection h with h; exact n2 h))
            rw [← hw4]
            clear hw4 hg4 DB DG DN D8
            have k0 := E8.out.c0
            have k1 := E8.out.c1
            go_wp2_with (first
              | (go_at_call 80; refine (HED.out _).mono ?_; rintro E w5 ⟨rfl, hb⟩; have F8 := Lib.hid (E8.out.below hb); have FB := Lib.hid (below_step EB.out hb); have FG := Lib.hid (EG.out.below hb); have FN := Lib.hid (EN.out.below hb); clear hb k0 k1)
              | fail)
            obtain ⟨wA, hwA⟩ : ∃ W, W = (w5.alloc (.cells #[.int .i64 (e1 : Int), .int .i64 (e2 : Int)] 106)).drew := ⟨_, rfl⟩
            have hbA : Below w5.heap.size w5 wA := by rw [hwA]; exact Below.drew (below_alloc (Below.refl _ _) _)
            have F9 := Lib.hid (show BoxAt wA w5.heap.size 106 (.int .i64 (e1 : Int)) (.int .i64 (e2 : Int)) by rw [hwA]; exact BoxAt.new w5 106 _ _)
            have A8 := Lib.hid (F8.out.below hbA)
            have AB := Lib.hid (below_step FB.out hbA)
            have AG := Lib.hid (FG.out.below hbA)
            have FN := Lib.hid (FN.out.below hbA)
            obtain ⟨c, hcE⟩ : ∃ x, cntE ps (e1, e2) = x := ⟨_, rfl⟩
            rw [hcE] at hcl
            have hlk : (Instr.lookup 104 (.map (some gn)) (.agg #[.int .i64 (e1 : Int), .int .i64 (e2 : Int)]) false).run Try.prog wA = .ok (.int .i64 (c : Int)) wA := hcE ▸ FN.out.look (t := 104) Try.underlying104 (p := (e1, e2)) hes
            have HCE := Lib.hid hcE
            generalize w5.heap.size = g9 at *
            clear hbA hcE FB FG F8
            refine start_ (n := 7) (S := fun w' => w'.cell? ⟨g9, 0, none⟩ = some (.int .i64 (e1 : Int)) ∧ w'.cell? ⟨g9, 1, none⟩ = some (.int .i64 (e2 : Int)) ∧ (Instr.lookup 104 (.map (some gn)) (.agg #[.int .i64 (e1 : Int), .int .i64 (e2 : Int)]) false).run Try.prog w' = .ok (.int .i64 (c : Int)) w') (ds := [6]) #[false, false, false, false, false, false, false] (by kernel_rfl) rfl rfl (by rw [← hwA]; exact ⟨F9.out.c0, F9.out.c1, hlk⟩) (fun hHeld => ?_)
            rw [← hwA] at hHeld ⊢
            clear hlk hwA
            refine pure_ (i := 0) (N := (some 41)) (v := ?_) (a' := ?_) #[true, false, false, false, false, false, false] rfl rfl (by kernel_rfl) (fun _ _ _ h => h) (Or.inl ⟨by rfl, ?_⟩) ?_ ?_
            rotate_left
            · intro w'
              go_simp
              with_reducible rfl
            rotate_left
            · simp only [Act.put, List.setIfInBounds_toArray, List.set_cons_zero, List.set_cons_succ, i64_w, i32_w]; rfl
            refine take_ (i := 1) (N := (some 42)) (v := ?_) (a' := ?_) #[true, true, false, false, false, false, false] rfl rfl (by kernel_rfl) (fun _ _ _ h => h) (Or.inl ⟨by rfl, ?_⟩) hHeld ?_ ?_
            rotate_left
            · intro w' hSw
              (try dsimp only at hSw)
              go_simp
              with_reducible rfl
            rotate_left
            · simp only [Act.put, List.setIfInBounds_toArray, List.set_cons_zero, List.set_cons_succ, i64_w, i32_w]; rfl
            refine take_ (i := 2) (N := (some 43)) (v := ?_) (a' := ?_) #[true, true, true, false, false, false, false] rfl rfl (by kernel_rfl) (fun _ _ _ h => h) (Or.inl ⟨by rfl, ?_⟩) hHeld ?_ ?_
            rotate_left
            · intro w' hSw
              (try dsimp only at hSw)
              go_simp
              with_reducible rfl
            rotate_left
            · simp only [Act.put, List.setIfInBounds_toArray, List.set_cons_zero, List.set_cons_succ, i64_w, i32_w]; rfl
            refine pure_ (i := 3) (N := (some 44)) (v := ?_) (a' := ?_) #[true, true, true, true, false, false, false] rfl rfl (by kernel_rfl) (fun _ _ _ h => h) (Or.inl ⟨by rfl, ?_⟩) ?_ ?_
            rotate_left
            · intro w'
              go_simp
              with_reducible rfl
            rotate_left
            · simp only [Act.put, List.setIfInBounds_toArray, List.set_cons_zero, List.set_cons_succ, i64_w, i32_w]; rfl
            refine one_ (i := 4) (N := (some 45)) #[true, true, true, true, true, false, false] rfl rfl (by kernel_rfl) (by decide) (fun K hK => ?_)
            obtain ⟨v0, st, wB, hE, G6, g6, hS⟩ := FN.out.entry (t := 104) Try.underlying104 (by unfold maxLen; omega) (p := (e1, e2)) hes
            replace hE : (Instr.mapEntry 104 (.map (some gn)) (.agg #[.int .i64 (e1 : Int), .int .i64 (e2 : Int)])).run Try.prog wA = .ok (.tuple #[v0, .int .i64 st]) wB := hE
            have F6 := Lib.hid (show BoxAt wB g9 106 (.int .i64 (e1 : Int)) (.int .i64 (e2 : Int)) from blk_grown F9.out g6 (by intro h; injection h with h; exact FN.out.ne F9.out h.symm))
            have hlk : (Instr.lookup 104 (.map (some gn)) (.agg #[.int .i64 (e1 : Int), .int .i64 (e2 : Int)]) false).run Try.prog wB = .ok (.int .i64 (c : Int)) wB := HCE.out ▸ G6.look (t := 104) Try.underlying104 (p := (e1, e2)) hes
            refine value_ (w1 := wB) (v := .tuple #[v0, .int .i64 st]) (by rfl) rfl ?_ ?_
            · go_simp
            refine hK.out _ _ ⟨F6.out.c0, F6.out.c1, hlk⟩ (fun hHeld => ?_)
            clear hK K
            refine norm_ (a' := ?_) ?_ ?_
            rotate_left
            · show Act.put _ (some 45) _ = _
              simp only [Act.put, List.setIfInBounds_toArray, List.set_cons_zero, List.set_cons_succ, i64_w, i32_w]
              rfl
            clear hlk hE
            refine pure_ (i := 5) (N := (some 46)) (v := ?_) (a' := ?_) #[true, true, true, true, true, true, false] rfl rfl (by kernel_rfl) (fun _ _ _ h => h) (Or.inl ⟨by rfl, ?_⟩) ?_ ?_
            rotate_left
            · intro w'
              go_simp
              with_reducible rfl
            rotate_left
            · simp only [Act.put, List.setIfInBounds_toArray, List.set_cons_zero, List.set_cons_succ, i64_w, i32_w]; rfl
            obtain ⟨wC, hT, G7, g7⟩ := hS (c + 1) (by show c + 1 ≤ 1000; omega)
            replace hT : (Instr.entryStore 104 (.map (some gn)) (.int .i64 st) (.int .i64 (wrap64 ((c : Int) + 1)))).run Try.prog wB = .ok () wC := by rw [wrap_fit (by omega) (by omega)]; exact hT
            refine last_ (i := 6) (N := none) #[true, true, true, true, true, true, true] rfl rfl (by kernel_rfl) (by decide) (fun K hK => ?_)
            refine skip_ (w1 := wC) (by rfl) rfl ?_ ?_
            · go_simp
            refine hK.out _ _ ?_
            clear hK K
            refine done_ (by kernel_rfl) ?_
            have HUP : Hid (upd (cntE ps) (e1, e2) (c + 1) = cntE (ps ++ [(p, q)])) := Lib.hid (by rw [← cntE_snoc, HEE.out, HCE.out])
            rw [HUP.out] at G7
            have HCN : Hid (cntE (ps ++ [(p, q)]) (e1, e2) = c + 1) := Lib.hid (by rw [← HUP.out]; unfold upd; rw [if_pos rfl])
            have C8 := Lib.hid (show BoxAt wC g8 106 (.int .i64 (p : Int)) (.int .i64 (q : Int)) from blk_grown A8.out g7 (by intro h; injection h with h; exact n2 h.symm))
            have C9 := Lib.hid (show BoxAt wC g9 106 (.int .i64 (e1 : Int)) (.int .i64 (e2 : Int)) from blk_grown F9.out g7 (by intro h; injection h with h; exact FN.out.ne F9.out h.symm))
            have CB := Lib.hid (pw_below_grown AB.out (some gn) AB.out.size g7 (fun k hk => by injection hk with hk; omega))
            have CG := Lib.hid (AG.out.kept g7 (by intro h; injection h with h; exact hne h))
            have CN := Lib.hid G7
            have hlg : (Instr.lookup 103 (.map (some gm)) (.agg #[.int .i64 (p : Int), .int .i64 (q : Int)]) false).run Try.prog wC = .ok (.bool (memE ps (p, q))) wC := CG.out.look (t := 103) Try.underlying103 (p := (p, q)) hps
            have hln : (Instr.lookup 104 (.map (some gn)) (.agg #[.int .i64 (e1 : Int), .int .i64 (e2 : Int)]) false).run Try.prog wC = .ok (.int .i64 ((c : Int) + 1)) wC := by
              have := CN.out.look (t := 104) Try.underlying104 (p := (e1, e2)) hes
              rw [HCN.out] at this
              exact this
            obtain ⟨wD, hup, GD, gD⟩ := CG.out.put (t := 103) Try.underlying103 (by unfold maxLen; omega) (p := (p, q)) hps (x := true) trivial
            replace hup : (Instr.mapUpdate 103 (.map (some gm)) (.agg #[.int .i64 (p : Int), .int .i64 (q : Int)]) (.bool true)).run Try.prog wC = .ok () wD := hup
            rw [memE_snoc] at GD
            have k80 := C8.out.c0
            have k81 := C8.out.c1
            have k90 := C9.out.c0
            have k91 := C9.out.c1
            clear hHeld G7 hT g6 g7 hS G6 F6 F9 A8 AB AG FN
            by_cases hm : memE ps (p, q) = true
            · rw [hm] at hlg
              have hnd : ¬ (tways T).Nodup := by
                intro h
                have h2 := (List.nodup_append.1 (HPD.out h)).2.2 (p, q) (by simpa [memE] using hm) (p, q) (by simp)
                exact h2 rfl
              go_wp2_with fail
              go_ret
              refine ⟨?_, CB.out⟩
              rw [decide_eq_false hnd]
              rfl
            · rw [Bool.eq_false_iff.2 hm] at hlg
              have hnn : (ps ++ [(p, q)]).Nodup := by
                rw [List.nodup_append]
                refine ⟨HD.out, by simp, fun a ha b hb => ?_⟩
                rintro rfl
                simp at hb
                exact hm (by simpa [memE, ← hb] using ha)
              have hc3 := cntE_two hnn (e1, e2)
              rw [HCN.out] at hc3
              have hc4 : ¬ ((2 : Int) < (c : Int) + 1) := by omega
              have HNN := Lib.hid hnn
              clear hnn hm
              go_wp2_with fail
              exact ⟨⟨j + 1, by omega, by simp, Lib.hid (pw_below_grown CB.out (some gm) CB.out.size gD (fun k hk => by injection hk with hk; omega)), by rw [HNX.out]; exact Lib.hid GD, by rw [HNX.out]; exact Lib.hid (CN.out.kept gD (by intro h; injection h with h; exact hne h.symm)), by rw [HNX.out]; exact HNN⟩, by simp [intOf]; omega⟩
          · obtain rfl : 3 = j := by omega
            go_wp2_with fail
            have hz : [(a1, a2), (a2, a3), (a3, a1)].take 3 = [(a1, a2), (a2, a3), (a3, a1)] := rfl
            rw [hz] at HG HN HD
            exact ⟨⟨i + 1, hlt, by simp, HB, by rw [HK.out]; exact HG, by rw [HK.out]; exact HN, by rw [HK.out]; exact HD⟩, by simp [intOf]; omega⟩
      · obtain rfl : i = T.length := by omega
        have hh := HD.out
        rw [List.take_length] at hh
        go_wp2_with fail
        go_ret
        refine ⟨?_, HB.out⟩
        rw [decide_eq_true hh]
        rfl
  · have hr : sheetB Q.length T = false := by unfold sheetB; rw [Bool.eq_false_iff.2 hv, Bool.false_and]
    rw [Bool.eq_false_iff.2 hv] at HV
    rw [hr]
    clear hr hv hQ hq hT hqt hb0 hbx
    go_enter Try.func34, Try.ntmps34
    go_wp2_with (first
      | (go_at_call 43; refine (HV.out _ HB0.out).mono ?_; rintro E w1 ⟨rfl, hb⟩; have B1 := Lib.hid (below_then HB0.out hb HB0.out.size); clear hb hc0 hc1)
      | fail)
    go_ret
    exact ⟨rfl, B1.out⟩

end Go.Proofs.Ytepilofcionekaa
namespace Go.Proofs.Ytepilofcionekaa
open Fl Go.RowKit Go.Proofs.YtepilofcionekaaW.PrintWords Go.Proofs.Ytepilofcionekaa.PMesh Msh Mp
set_option linter.unusedVariables false

/-- Whether a triangle goes from a place to another. -/
def goesB (t : List Int) (p : Nat × Nat) : Bool := decide (p ∈ ways3 t)
theorem goes_f (x y z a b : Nat) : spec_l02Goes.f [(x : Int), (y : Int), (z : Int)] (a : Int) (b : Int) = some (goesB [(x : Int), (y : Int), (z : Int)] (a, b)) := by
  unfold spec_l02Goes.f goesB
  rw [ways3_nat]
  simp only [rd3_0, rd3_1, rd3_2, List.length_cons, List.length_nil, List.mem_cons, List.not_mem_nil, or_false, Prod.mk.injEq]
  have c1 : (0 : Int) < ((0 + 1 + 1 + 1 : Nat) : Int) := by omega
  have c2 : (1 : Int) < ((0 + 1 + 1 + 1 : Nat) : Int) := by omega
  have c3 : (2 : Int) < ((0 + 1 + 1 + 1 : Nat) : Int) := by omega
  simp only [c1, c2, c3, if_true]
  simp only [Int.natCast_inj]
  repeat' split
  all_goals
    congr 1
    rw [Bool.eq_iff_iff]
    simp only [decide_eq_true_eq, beq_iff_eq, true_iff, false_iff, Bool.false_eq_true, Int.natCast_inj]
    omega

/-- The triangles that have two places. -/
def bothL (T : List (List Int)) (a b : Nat) : List (List Int) := T.filter (hasAll [(a : Int), (b : Int)])
theorem withL_map (T : List (List Int)) (ps : List Int) (d : Nat) : ∀ i, i ≤ T.length → T.length - i = d → (withL ps i (T.drop i)).map (fun x => T.getD x.toNat []) = (T.drop i).filter (hasAll ps) := by
  induction d with
  | zero => intro i hi hd; rw [List.drop_of_length_le (by omega)]; rfl
  | succ d ih =>
    intro i hi hd
    have hil : i < T.length := by omega
    rw [List.drop_eq_getElem_cons hil]
    unfold withL
    have := ih (i + 1) (by omega) (by omega)
    by_cases h : hasAll ps T[i] = true
    · rw [if_pos h, List.map_cons, this, List.filter_cons_of_pos h]
      simp [List.getD_eq_getElem?_getD, hil]
    · rw [if_neg h, this, List.filter_cons_of_neg h]
theorem withL_both (T : List (List Int)) (a b : Nat) : (withL [(a : Int), (b : Int)] 0 T).map (fun x => T.getD x.toNat []) = bothL T a b := by
  have := withL_map T [(a : Int), (b : Int)] T.length 0 (by omega) (by omega)
  simpa [bothL] using this
theorem withL_range (ps : List Int) (T : List (List Int)) : ∀ i, ∀ x ∈ withL ps i T, (i : Int) ≤ x ∧ x < (i : Int) + (T.length : Int) := by
  induction T with
  | nil => intro i x hx; simp [withL] at hx
  | cons t r ih =>
    intro i x hx
    unfold withL at hx
    rw [List.length_cons]
    split at hx
    · rcases List.mem_cons.1 hx with rfl | hx
      · omega
      · have := ih (i + 1) x hx; omega
    · have := ih (i + 1) x hx; omega

/-- What the reference asks of an edge. -/
def okE (T : List (List Int)) (p : Nat × Nat) : Bool := match bothL T p.1 p.2 with
  | [] => true
  | [_] => true
  | [t, u] => goesB t p != goesB u p
  | _ => false

theorem tri_both {n : Nat} {t : List Int} (h : triB n t = true) (a b : Nat) (hab : a ≠ b) : (hasAll [(a : Int), (b : Int)] t = (goesB t (a, b) || goesB t (b, a))) ∧ ¬ (goesB t (a, b) = true ∧ goesB t (b, a) = true) ∧ (ways3 t).count (a, b) = (if goesB t (a, b) = true then 1 else 0) := by
  obtain ⟨x, y, z, rfl, _, _, _, e1, e2, e3⟩ := tri_natE h
  unfold goesB
  rw [ways3_nat, hasAll_two]
  simp only [List.contains_cons, List.contains_nil, Bool.or_false, List.mem_cons, List.not_mem_nil, or_false, Prod.mk.injEq, decide_eq_true_eq, List.count_cons, List.count_nil, beq_iff_eq]
  refine ⟨?_, by omega, ?_⟩
  · rw [Bool.eq_iff_iff]
    simp only [Bool.and_eq_true, Bool.or_eq_true, beq_iff_eq, decide_eq_true_eq]
    omega
  · repeat' split
    all_goals omega

theorem count_both (n : Nat) (T : List (List Int)) (h : T.all (triB n) = true) (a b : Nat) (hab : a ≠ b) : (tways T).count (a, b) = (bothL T a b).countP (fun t => goesB t (a, b)) ∧ (bothL T a b).length = (tways T).count (a, b) + (tways T).count (b, a) := by
  induction T with
  | nil => simp [tways, bothL]
  | cons t r ih =>
    rw [List.all_cons, Bool.and_eq_true] at h
    obtain ⟨i1, i2⟩ := ih h.2
    obtain ⟨k1, k2, k3⟩ := tri_both h.1 a b hab
    obtain ⟨_, _, k4⟩ := tri_both h.1 b a (fun e => hab e.symm)
    have e1 : tways (t :: r) = ways3 t ++ tways r := rfl
    have e2 : bothL (t :: r) a b = (if hasAll [(a : Int), (b : Int)] t = true then [t] else []) ++ bothL r a b := by
      unfold bothL
      by_cases hh : hasAll [(a : Int), (b : Int)] t = true
      · rw [List.filter_cons_of_pos hh, if_pos hh]; rfl
      · rw [List.filter_cons_of_neg hh, if_neg hh]; rfl
    rw [e1, e2, List.count_append, List.count_append, List.countP_append, List.length_append, k3, k4, ← i1, i2, k1]
    by_cases g1 : goesB t (a, b) = true
    · have g2 : goesB t (b, a) = false := Bool.eq_false_iff.2 (fun g => k2 ⟨g1, g⟩)
      simp [g1, g2]
      omega
    · have g1' := Bool.eq_false_iff.2 g1
      by_cases g2 : goesB t (b, a) = true
      · simp [g1', g2]
        omega
      · have g2' := Bool.eq_false_iff.2 g2
        simp [g1', g2']

theorem okE_iff (n : Nat) (T : List (List Int)) (h : T.all (triB n) = true) (a b : Nat) (hab : a ≠ b) : okE T (a, b) = true ↔ (tways T).count (a, b) ≤ 1 ∧ (tways T).count (b, a) ≤ 1 := by
  obtain ⟨h1, h2⟩ := count_both n T h a b hab
  unfold okE
  have hg : ∀ t ∈ bothL T a b, True := fun _ _ => trivial
  simp only
  generalize bothL T a b = F at *
  match F with
  | [] => simp at h1 h2; simp; omega
  | [t] => simp at h1 h2; simp; by_cases g : goesB t (a, b) = true <;> simp [g] at h1 <;> omega
  | [t, u] =>
    by_cases g : goesB t (a, b) = true <;> by_cases g' : goesB u (a, b) = true <;> simp [g, g'] at h1 h2 ⊢ <;> omega
  | t :: u :: v :: r =>
    simp at h2 ⊢
    omega

theorem nodup_count : ∀ l : List (Nat × Nat), (∀ x ∈ l, l.count x ≤ 1) → l.Nodup
  | [], _ => List.nodup_nil
  | x :: r, h => by
    refine List.nodup_cons.2 ⟨fun hx => ?_, nodup_count r (fun y hy => ?_)⟩
    · have := h x (by simp)
      rw [List.count_cons_self] at this
      have := List.count_pos_iff.2 hx
      omega
    · have := h y (by simp [hy])
      rw [List.count_cons] at this
      omega

theorem sheet_iff (n : Nat) (T : List (List Int)) (h : T.all (triB n) = true) : (edgesP n T).all (okE T) = decide (tways T).Nodup := by
  rw [Bool.eq_iff_iff, List.all_eq_true, decide_eq_true_eq]
  constructor
  · intro hk
    refine nodup_count _ (fun x hx => ?_)
    obtain ⟨_, _, hne⟩ := ways_lt h x hx
    have hm : edgeN x ∈ edgesP n T := (edges_iff h _).2 (List.mem_map.2 ⟨x, hx, rfl⟩)
    have := hk _ hm
    obtain ⟨x1, x2⟩ := x
    unfold edgeN at this
    simp only at this hne
    have := (okE_iff n T h _ _ (by omega)).1 this
    rcases Nat.le_total x1 x2 with h' | h'
    · rw [Nat.min_eq_left h', Nat.max_eq_right h'] at this; exact this.1
    · rw [Nat.min_eq_right h', Nat.max_eq_left h'] at this; exact this.2
  · intro hn p hp
    obtain ⟨_, _, hlt, _⟩ := mem_edgesP.1 hp
    obtain ⟨a, b⟩ := p
    exact (okE_iff n T h a b (by simp only at hlt; omega)).2 ⟨count_le_one _ _ hn, count_le_one _ _ hn⟩
end Go.Proofs.Ytepilofcionekaa
namespace Go.Proofs.Ytepilofcionekaa.Msh
open Fl Go.RowKit Go.Proofs.YtepilofcionekaaW.PrintWords Go.Proofs.Ytepilofcionekaa.PMesh
set_option linter.unusedVariables false

theorem min_f (p q : Nat) : spec_l00Min.f (p : Int) (q : Int) = some ((min p q : Nat) : Int) := by
  unfold spec_l00Min.f
  split <;> (congr 1; omega)
theorem max_f (p q : Nat) : spec_l00Max.f (p : Int) (q : Int) = some ((max p q : Nat) : Int) := by
  unfold spec_l00Max.f
  split <;> (congr 1; omega)
theorem idx_lt {n p q : Nat} (hp : p < n) (hq : q < n) : p * n + q < n * n := by
  have := Nat.mul_le_mul_right n (show p + 1 ≤ n from hp)
  rw [Nat.succ_mul] at this
  omega
theorem idx_inj {n a b p q : Nat} (hb : b < n) (hq : q < n) (h : a * n + b = p * n + q) : a = p ∧ b = q := by
  have h1 : (a * n + b) / n = a := by rw [Nat.add_comm, Nat.add_mul_div_right _ _ (by omega), Nat.div_eq_of_lt hb, Nat.zero_add]
  have h2 : (p * n + q) / n = p := by rw [Nat.add_comm, Nat.add_mul_div_right _ _ (by omega), Nat.div_eq_of_lt hq, Nat.zero_add]
  rw [h, h2] at h1
  subst h1
  exact ⟨rfl, by omega⟩
theorem idx_wrap {n p q : Nat} (hn : n ≤ 64) (hp : p < n) (hq : q < n) : wrap64 (wrap64 ((p : Int) * (n : Int)) + (q : Int)) = ((p * n + q : Nat) : Int) := by
  have h1 := idx_lt hp hq
  have h2 : n * n ≤ 4096 := by have := Nat.mul_le_mul hn hn; omega
  have e : (p : Int) * (n : Int) = ((p * n : Nat) : Int) := by rw [Int.natCast_mul]
  rw [e]
  generalize p * n = x at *
  generalize n * n = y at *
  have h3 : wrap64 (x : Int) = (x : Int) := wrap_fit (by omega) (by omega)
  rw [h3, wrap_fit (by omega) (by omega), Int.natCast_add]

/-- Pairs that are marked in a table. -/
def Seen (n : Nat) (ps : List (Nat × Nat)) (s : List Bool) : Prop := s.length = n * n ∧ ∀ a b, a < n → b < n → s.getD (a * n + b) false = decide ((a, b) ∈ ps)
theorem Seen.start (n : Nat) : Seen n [] (List.replicate (n * n) false) := ⟨by simp, fun a b ha hb => by
  have := idx_lt ha hb
  rw [List.getD_eq_getElem?_getD, List.getElem?_replicate]
  simp [this]⟩
theorem Seen.step {n : Nat} {ps : List (Nat × Nat)} {s : List Bool} (h : Seen n ps s) {p q : Nat} (hp : p < n) (hq : q < n) : Seen n (ps ++ [(p, q)]) (s.set (p * n + q) true) := by
  refine ⟨by rw [List.length_set]; exact h.1, fun a b ha hb => ?_⟩
  have hl := idx_lt hp hq
  rw [← h.1] at hl
  rw [List.getD_eq_getElem?_getD]
  by_cases e : p * n + q = a * n + b
  · obtain ⟨rfl, rfl⟩ := idx_inj hq hb e
    rw [List.getElem?_set_self hl]
    simp
  · rw [List.getElem?_set_ne e, ← List.getD_eq_getElem?_getD, h.2 a b ha hb, decide_eq_decide]
    constructor
    · intro hm; simp [hm]
    · intro hm
      rcases List.mem_append.1 hm with hm | hm
      · exact hm
      · simp at hm
        exact absurd (by rw [hm.1, hm.2]) e

section
variable (Q : List S42) (T : List (List Int))
theorem e1_step (k n : Nat) (hn : n ≤ 64) (s : List Bool) (hl : s.length = n * n) (i : Int) (t : List Int) (j j1 : Int) (p q : Nat) (hp : p < n) (hq : q < n) (h0 : 0 ≤ j) (h3 : j < 3) (ht : t.length = 3) (hj : Int.tmod (wrap64 (j + 1)) 3 = j1) (hj0 : 0 ≤ j1) (hj3 : j1 < 3) (e1 : rd t j = (p : Int)) (e2 : rd t j1 = (q : Int)) :
    spec_l02Edges.l1 (k + 1) (n : Int) s i t j Q T = spec_l02Edges.l1 k (n : Int) (s.set (min p q * n + max p q) true) i t (wrap64 (j + 1)) Q T := by
  have hm : min p q < n := by omega
  have hM : max p q < n := by omega
  simp only [spec_l02Edges.l1]
  rw [if_pos h3, if_pos h0, if_pos (by rw [ht]; omega), hj, if_pos hj0, if_pos (by rw [ht]; omega), e1, e2, min_f, max_f]
  have hx := idx_lt hm hM
  rw [Option.bind_some, Option.bind_some, idx_wrap hn hm hM, if_pos (Int.natCast_nonneg _), if_pos (by rw [hl]; exact Int.ofNat_lt.2 hx), Int.toNat_natCast]

theorem w01 : wrap64 (0 + 1) = 1 := by rw [wrap_fit (by omega) (by omega)]; rfl
theorem w12 : wrap64 (1 + 1) = 2 := by rw [wrap_fit (by omega) (by omega)]; rfl
theorem w23 : wrap64 (2 + 1) = 3 := by rw [wrap_fit (by omega) (by omega)]; rfl
theorem e1_all (k n : Nat) (hn : n ≤ 64) (s : List Bool) (ps : List (Nat × Nat)) (hs : Seen n ps s) (i : Int) (a b c : Nat) (ha : a < n) (hb : b < n) (hc : c < n) :
    ∃ s', Seen n (ps ++ [edgeN (a, b), edgeN (b, c), edgeN (c, a)]) s' ∧ spec_l02Edges.l1 (k + 4) (n : Int) s i [(a : Int), (b : Int), (c : Int)] 0 Q T = spec_l02Edges.l0 k (n : Int) s' (wrap64 (i + 1)) Q T := by
  have s1 := hs.step (p := min a b) (q := max a b) (by omega) (by omega)
  have s2 := s1.step (p := min b c) (q := max b c) (by omega) (by omega)
  have s3 := s2.step (p := min c a) (q := max c a) (by omega) (by omega)
  refine ⟨_, by simpa [edgeN] using s3, ?_⟩
  rw [e1_step Q T (k + 3) n hn s hs.1 i _ 0 1 a b ha hb (by omega) (by omega) rfl (by rw [w01]; rfl) (by omega) (by omega) rfl rfl, w01]
  rw [e1_step Q T (k + 2) n hn _ s1.1 i _ 1 2 b c hb hc (by omega) (by omega) rfl (by rw [w12]; rfl) (by omega) (by omega) rfl rfl, w12]
  rw [e1_step Q T (k + 1) n hn _ s2.1 i _ 2 0 c a hc ha (by omega) (by omega) rfl (by rw [w23]; rfl) (by omega) (by omega) rfl rfl, w23]
  simp only [spec_l02Edges.l1]
  rw [if_neg (by omega)]

theorem e0_loop (n : Nat) (hn : n ≤ 64) (hT : T.length ≤ 128) (ht : T.all (triB n) = true) (d : Nat) : ∀ (k i : Nat) (s : List Bool), i ≤ T.length → T.length - i = d → Seen n ((tways (T.take i)).map edgeN) s → 5 * d + 1 < k →
    ∃ s' k', Seen n ((tways T).map edgeN) s' ∧ k' + 5 * d + 1 = k ∧ spec_l02Edges.l0 k (n : Int) s (i : Int) Q T = spec_l02Edges.l2 k' (n : Int) s' [] 0 := by
  induction d with
  | zero =>
    intro k i s hi hd hs hk
    obtain ⟨k, rfl⟩ : ∃ j, k = j + 1 := ⟨k - 1, by omega⟩
    rw [List.take_of_length_le (by omega)] at hs
    refine ⟨s, k, hs, by omega, ?_⟩
    simp only [spec_l02Edges.l0]
    rw [if_neg (by omega)]
  | succ d ih =>
    intro k i s hi hd hs hk
    obtain ⟨k, rfl⟩ : ∃ j, k = j + 5 := ⟨k - 5, by omega⟩
    have hil : i < T.length := by omega
    obtain ⟨a, b, c, et, ha, hb, hc, _⟩ := tri_natE (List.all_eq_true.1 ht T[i] (List.getElem_mem hil))
    obtain ⟨s1, hs1, e1⟩ := e1_all Q T k n hn s _ hs (i : Int) a b c ha hb hc
    simp only [spec_l02Edges.l0]
    rw [if_pos (by omega), if_pos (by omega), rdL T i hil, et, e1, up i (by omega)]
    have hw : (tways (T.take (i + 1))).map edgeN = (tways (T.take i)).map edgeN ++ [edgeN (a, b), edgeN (b, c), edgeN (c, a)] := by
      rw [List.take_succ_eq_append_getElem hil, et, ways_snoc, ways3_nat, List.map_append]
      rfl
    obtain ⟨s', k', h1, h2, h3⟩ := ih k (i + 1) s1 (by omega) (by omega) (by rw [hw]; exact hs1) (by omega)
    exact ⟨s', k', h1, by omega, h3⟩

/-- The edges from a on to places before b. -/
def edgesB (T : List (List Int)) (a b : Nat) : List (List Int) := ((List.range b).filter fun b => decide (a < b) && isE T a b).map fun b : Nat => ([(a : Int), (b : Int)] : List Int)
theorem edgesB_all (n : Nat) (a : Nat) : edgesB T a n = edgesA n T a := rfl
theorem edgesB_start (a : Nat) : edgesB T a (a + 1) = [] := by
  unfold edgesB
  rw [List.map_eq_nil_iff, List.filter_eq_nil_iff]
  intro x hx
  simp at hx
  simp
  omega
theorem edgesB_succ (a b : Nat) (h : a < b) : edgesB T a (b + 1) = edgesB T a b ++ (if isE T a b = true then [[(a : Int), (b : Int)]] else []) := by
  unfold edgesB
  rw [List.range_succ, List.filter_append, List.map_append]
  congr 1
  by_cases he : isE T a b = true
  · simp [he, h]
  · simp [he]

theorem e3_loop (n : Nat) (hn : n ≤ 64) (s : List Bool) (hl : s.length = n * n) (hs : ∀ a b, a < n → b < n → a < b → s.getD (a * n + b) false = isE T a b) (a : Nat) (ha : a < n) (out : List (List Int)) (ho : out.length ≤ a * 64) (d : Nat) :
    ∀ (k b : Nat), a < b → b ≤ n → n - b = d → d + 1 < k → ∃ k', k' + d + 1 = k ∧ spec_l02Edges.l3 k (n : Int) s (out ++ edgesB T a b) (a : Int) (b : Int) = spec_l02Edges.l2 k' (n : Int) s (out ++ edgesA n T a) (wrap64 ((a : Int) + 1)) := by
  induction d with
  | zero =>
    intro k b hab hb hd hk
    obtain ⟨k, rfl⟩ : ∃ j, k = j + 1 := ⟨k - 1, by omega⟩
    obtain rfl : b = n := by omega
    refine ⟨k, by omega, ?_⟩
    simp only [spec_l02Edges.l3]
    rw [if_neg (by omega)]
    rfl
  | succ d ih =>
    intro k b hab hb hd hk
    obtain ⟨k, rfl⟩ : ∃ j, k = j + 1 := ⟨k - 1, by omega⟩
    have hbn : b < n := by omega
    have hidx := idx_lt ha hbn
    obtain ⟨k', hk', e⟩ := ih k (b + 1) (by omega) (by omega) (by omega) (by omega)
    refine ⟨k', by omega, ?_⟩
    rw [← e, edgesB_succ T a b hab]
    have hlen : (edgesB T a b).length ≤ b := by unfold edgesB; rw [List.length_map]; have := List.length_filter_le (fun x => decide (a < x) && isE T a x) (List.range b); simpa using this
    simp only [spec_l02Edges.l3]
    rw [if_pos (by omega), idx_wrap hn ha hbn, if_pos (Int.natCast_nonneg _), if_pos (by rw [hl]; exact Int.ofNat_lt.2 hidx)]
    have hr : rdOf false s ((a * n + b : Nat) : Int) = isE T a b := by unfold rdOf; rw [Int.toNat_natCast]; exact hs a b ha hbn hab
    rw [hr, up b (by omega)]
    by_cases he : isE T a b = true
    · rw [if_pos he, if_pos he, if_pos (by rw [List.length_append]; omega), List.append_assoc]
    · rw [if_neg he, if_neg he, List.append_nil]

theorem e2_loop (n : Nat) (hn : n ≤ 64) (s : List Bool) (hl : s.length = n * n) (hs : ∀ a b, a < n → b < n → a < b → s.getD (a * n + b) false = isE T a b) (d : Nat) :
    ∀ (k a : Nat), a ≤ n → n - a = d → d * 70 + 1 < k → spec_l02Edges.l2 k (n : Int) s ((List.range a).flatMap (edgesA n T)) (a : Int) = some (edgesL n T) := by
  induction d with
  | zero =>
    intro k a ha hd hk
    obtain ⟨k, rfl⟩ : ∃ j, k = j + 1 := ⟨k - 1, by omega⟩
    obtain rfl : a = n := by omega
    simp only [spec_l02Edges.l2]
    rw [if_neg (by omega)]
    rfl
  | succ d ih =>
    intro k a ha hd hk
    obtain ⟨k, rfl⟩ : ∃ j, k = j + 1 := ⟨k - 1, by omega⟩
    have han : a < n := by omega
    have hlen : ((List.range a).flatMap (edgesA n T)).length ≤ a * 64 := by
      have key : ∀ m : Nat, ((List.range m).flatMap (edgesA n T)).length ≤ m * 64 := by
        intro m
        induction m with
        | zero => simp
        | succ m ih =>
          rw [List.range_succ, List.flatMap_append, List.length_append]
          have : (edgesA n T m).length ≤ 64 := by unfold edgesA; rw [List.length_map]; have := List.length_filter_le (fun x => decide (m < x) && isE T m x) (List.range n); simp at this; omega
          rw [show List.flatMap (edgesA n T) [m] = edgesA n T m by simp]
          omega
      exact key a
    simp only [spec_l02Edges.l2]
    rw [if_pos (by omega), up a (by omega)]
    obtain ⟨k', hk', e⟩ := e3_loop T n hn s hl hs a han _ hlen (n - (a + 1)) k (a + 1) (by omega) (by omega) rfl (by omega)
    rw [edgesB_start, List.append_nil] at e
    rw [e, up a (by omega)]
    have := ih k' (a + 1) (by omega) (by omega) (by omega)
    rw [List.range_succ, List.flatMap_append] at this
    simpa using this
end

/-- What l02Edges computes of a valid mesh. -/
theorem edges_f (Q : List S42) (T : List (List Int)) (hv : validB Q.length T = true) : spec_l02Edges.f 10000 Q T = some (edgesL Q.length T) := by
  obtain ⟨hn, hT, ht⟩ := validB_iff.1 hv
  have hnn : Q.length * Q.length ≤ 4096 := by have := Nat.mul_le_mul hn hn; omega
  have e : wrap64 ((Q.length : Int) * (Q.length : Int)) = ((Q.length * Q.length : Nat) : Int) := by rw [← Int.natCast_mul]; exact wrap_fit (by omega) (by omega)
  unfold spec_l02Edges.f
  rw [e, if_pos (by omega), Int.toNat_natCast, if_pos (by omega)]
  obtain ⟨s, k', h1, h2, h3⟩ := e0_loop Q T Q.length hn hT ht T.length 10000 0 _ (by omega) (by omega) (by simpa [tways] using Seen.start Q.length) (by omega)
  rw [show ((0 : Nat) : Int) = 0 from rfl] at h3
  rw [h3]
  have hs : ∀ a b, a < Q.length → b < Q.length → a < b → s.getD (a * Q.length + b) false = isE T a b := by
    intro a b ha hb hab
    rw [h1.2 a b ha hb]
    have := mem_edges ht hab
    by_cases he : isE T a b = true
    · rw [he, decide_eq_true (this.2 he)]
    · rw [Bool.eq_false_iff.2 he]
      exact decide_eq_false (fun h => he (this.1 h))
  have := e2_loop T Q.length hn s h1.1 hs Q.length k' 0 (by omega) (by omega) (by omega)
  rw [show ((0 : Nat) : Int) = 0 from rfl] at this
  simpa using this
end Go.Proofs.Ytepilofcionekaa.Msh
namespace Go.Proofs.Ytepilofcionekaa
open Fl Go.RowKit Go.Proofs.YtepilofcionekaaW.PrintWords Go.Proofs.YtepilofcionekaaW.PrintLast Go.Proofs.YtepilofcionekaaW.PrintMore Go.Proofs.Ytepilofcionekaa.PMesh Msh Mp
set_option linter.unusedVariables false
set_option linter.unusedSimpArgs false

/-- A mesh's variable. -/
abbrev VarN (w0 W : World) (g : Nat) (Q : List S42) (T : List (List Int)) : Prop := IsS27 w0 W g Q T

theorem edges_step (Q : List S42) (T : List (List Int)) (hv : validB Q.length T = true) (g : Nat) (w0 W : World) (hI : VarN w0 W g Q T) (hB : Below w0.heap.size w0 W) :
    Calls Try.prog 75 #[.pointer (some ⟨g, 0, none⟩)] W fun e w' => ∃ v : Value, e = .returned v ∧ Hid (Kd.S (Kd.slice 2 (Kd.int .i64)) 56 w' W.heap.size (fun _ => True) v (edgesL Q.length T)) ∧ Hid (VarN w0 w' g Q T) ∧ Hid (Below w0.heap.size w0 w') := by
  refine (spec_l02Edges.calls 10000 g Q T _ w0 W hI hB (edges_f Q T hv)).mono ?_
  rintro e w' ⟨v, rfl, h0, h1, h2, _⟩
  exact ⟨v, rfl, Lib.hid h0, Lib.hid h1, Lib.hid h2⟩

theorem atN_step (Q : List S42) (T : List (List Int)) (hv : validB Q.length T = true) (a b : Int) (g : Nat) (w0 W : World) (hI : VarN w0 W g Q T) (hB : Below w0.heap.size w0 W) :
    Calls Try.prog 103 #[.pointer (some ⟨g, 0, none⟩), .int .i64 a, .int .i64 b] W fun e w' => ∃ v : Value, e = .returned v ∧ Hid (Kd.R (Kd.int .i64) 2 w' W.heap.size (fun _ => True) v (withL [a, b] 0 T)) ∧ Hid (VarN w0 w' g Q T) ∧ Hid (Below w0.heap.size w0 w') ∧ Hid (KeepBut W w' g none) := by
  refine (spec_l02At.calls 200 g Q T a b _ w0 W hI hB (at_f Q T hv a b)).mono ?_
  rintro e w' ⟨v, rfl, h0, h1, h2, h3⟩
  exact ⟨v, rfl, Lib.hid h0, Lib.hid h1, Lib.hid h2, Lib.hid h3⟩

set_option maxHeartbeats 4000000 in
set_option maxRecDepth 100000 in
theorem spec_l02Sheet (Q : List S42) (T : List (List Int)) (hv : validB Q.length T = true) (g : Nat) (w0 W : World) (hI : VarN w0 W g Q T) (hB : Below w0.heap.size w0 W) :
    Calls Try.prog 79 #[.pointer (some ⟨g, 0, none⟩)] W fun e w' => e = .returned (.bool ((edgesP Q.length T).all (okE T))) ∧ Below w0.heap.size w0 w' := by
  have HI := Lib.hid hI
  have HB := Lib.hid hB
  have HV := Lib.hid hv
  obtain ⟨hn, ht, hta⟩ := validB_iff.1 hv
  have HA := Lib.hid hta
  have HEL : Hid (edgesL Q.length T = (edgesP Q.length T).map fun p => [(p.1 : Int), (p.2 : Int)]) := Lib.hid (edgesL_P Q.length T)
  have hel : (edgesP Q.length T).length ≤ 4096 := edgesP_len hn T
  obtain ⟨en, hen⟩ : ∃ en, en = (edgesL Q.length T).length := ⟨_, rfl⟩
  have HEN := Lib.hid hen
  have HEP : Hid (en = (edgesP Q.length T).length) := Lib.hid (by rw [hen, edgesL_P, List.length_map])
  have hel2 : en ≤ 4096 := by rw [HEP.out]; exact hel
  clear hI hB hv hta hen hel
  go_enter Try.func79, Try.ntmps79
  go_wp2_with (first
    | (go_at_call 75; refine (edges_step Q T HV.out g w0 _ HI.out HB.out).mono ?_; rintro e w1 ⟨v, rfl, S1, I1, B1⟩; obtain ⟨Ae, ce, ev⟩ := Kd.S_slice S1.out; rw [← HEN.out] at ev; subst ev)
    | fail)
  have hgl : g < W.heap.size := by obtain ⟨_, _, _, _, hg, _⟩ := HI.out; exact blk_lt hg
  have C1 := Lib.hid (Kd.S_mono (ok' := fun k => k ≠ g) (Kd.S_bound S1.out) (fun k hk => by have := hk.2.1; omega))
  clear S1
  go_loopw [4] (fun k wr => ∃ i : Nat, i ≤ en ∧ k = .int .i64 (i : Int) ∧ Hid (Kd.S (Kd.slice 2 (Kd.int .i64)) 56 wr W.heap.size (fun k => k ≠ g) (.slice Ae en ce) (edgesL Q.length T)) ∧ Hid (VarN w0 wr g Q T) ∧ Hid (Below w0.heap.size w0 wr) ∧ Hid (((edgesP Q.length T).take i).all (okE T) = true)) (fun k _ => en - (intOf k).toNat)
  case atStart => exact ⟨0, Nat.zero_le _, rfl, C1, I1, B1, Lib.hid rfl⟩
  case round =>
    clear I1 B1 HI HB C1
    obtain ⟨i, hi, rfl, HK, HI, HB, HO⟩ := hrel
    by_cases hlt' : i < en
    · have hlt : i < (edgesP Q.length T).length := by rw [← HEP.out]; exact hlt'
      have hlt2 : i < (edgesL Q.length T).length := by rw [← HEN.out]; exact hlt'
      have b1 : (i : Int) < (en : Int) := by omega
      have b2 : (0 : Int) ≤ (i : Int) := by omega
      have b3 : (i : Int) < 9223372036854775807 := by omega
      obtain ⟨ea, C, cc, rfl, tc, hcc, hC⟩ := at_L3 (Kd.S_reads' HK.out).2.2 (i : Int) b2 (by omega)
      rw [rdL _ i hlt2, Int.toNat_natCast] at tc
      rw [rdL _ i hlt2] at hcc hC
      obtain ⟨p, hp⟩ : ∃ p, p = (edgesP Q.length T)[i] := ⟨_, rfl⟩
      have hrow : (edgesL Q.length T)[i]'hlt2 = [(p.1 : Int), (p.2 : Int)] := by
        simp only [HEL.out, List.getElem_map, hp]
      rw [hrow] at tc hcc hC
      have hmem := mem_edgesP.1 (hp ▸ List.getElem_mem hlt)
      have HNX : Hid (((edgesP Q.length T).take (i + 1)).all (okE T) = okE T p) := Lib.hid (by rw [List.take_succ_eq_append_getElem hlt, List.all_append, HO.out, ← hp]; simp)
      have HAL : Hid (okE T p = false → (edgesP Q.length T).all (okE T) = false) := Lib.hid (by
        intro h
        rw [List.all_eq_false]
        exact ⟨p, hp ▸ List.getElem_mem hlt, by simp [h]⟩)
      obtain ⟨a, b⟩ := p
      simp only at hmem hrow HNX HAL tc hcc hC
      obtain ⟨h1, h2, h3, _⟩ := hmem
      replace tc : wr.cell? (ea.add i) = some (.slice C 2 cc) := tc
      obtain ⟨ad, rfl, x0⟩ := Kd.at_int hC 0 (by omega) (by simp)
      obtain ⟨_, e0, x1⟩ := Kd.at_int hC 1 (by omega) (by simp)
      cases e0
      replace x0 : wr.cell? ad = some (.int .i64 (a : Int)) := by rw [show Int.toNat 0 = 0 from rfl, Addr.add_zero'] at x0; exact x0
      replace x1 : wr.cell? (ad.add 1) = some (.int .i64 (b : Int)) := x1
      simp only [Addr.add, Nat.reduceEqDiff, ↓reduceIte] at x1
      have HX := Lib.hid HK.out
      clear hC hcc hrow hp HK hlt hlt2
      go_wp2_with (first
        | (go_at_call 103; (with_reducible refine (atN_step Q T HV.out (a : Int) (b : Int) g w0 _ HI.out HB.out).mono ?_); rintro e w5 ⟨v, rfl, R5, I5, B5, K5⟩; obtain ⟨Al, cl, rfl⟩ := Kd.R_slice R5.out; have S5 := Lib.hid (Kd.S_keep HX.out K5.out (fun _ h => h)); clear tc x0 x1)
        | fail)
      have hwb := withL_both T a b
      have hwr := withL_range [(a : Int), (b : Int)] T 0
      generalize withL [(a : Int), (b : Int)] 0 T = Lw at *
      have HWB := Lib.hid hwb
      have HWR := Lib.hid hwr
      clear hwb hwr b1 b2 b3
      have hbw : Below w0.heap.size w0 w5 := B5.out
      obtain ⟨_, _, Bt, te, hg5, _, _, hT0⟩ := I5.out
      rcases Lw with _ | ⟨y0, _ | ⟨y1, _ | ⟨y2, r⟩⟩⟩
      · have hk : okE T (a, b) = true := by unfold okE; simp only; rw [← HWB.out]; rfl
        rw [hk] at HNX
        clear hk hg5 hT0 hbw
        have E1 := Lib.hid (Kd.S_drew S5.out)
        have E2 := Lib.hid (IsS27.below I5.out (Below.drew (Below.refl w5.heap.size w5)))
        have E3 := Lib.hid (Below.drew B5.out)
        clear S5 I5 B5 K5 R5
        refine start_ (n := 35) (S := fun w' => True) (ds := []) #[false, false, false, false, false, false, false, false, false, false, false, false, false, false, false, false, false, false, false, false, false, false, false, false, false, false, false, false, false, false, false, false, false, false, false] (by kernel_rfl) rfl rfl trivial (fun hHeld => ?_)
        generalize w5.drew = w6 at *
        refine pure_ (i := 0) (N := (some 32)) (v := ?_) (a' := ?_) #[true, false, false, false, false, false, false, false, false, false, false, false, false, false, false, false, false, false, false, false, false, false, false, false, false, false, false, false, false, false, false, false, false, false, false] rfl rfl (by kernel_rfl) (fun _ _ _ h => h) (Or.inl ⟨by rfl, ?_⟩) ?_ ?_
        rotate_left
        · intro w'
          go_simp
          with_reducible rfl
        rotate_left
        · simp only [Act.put, List.setIfInBounds_toArray, List.set_cons_zero, List.set_cons_succ, i64_w, i32_w]; rfl
        refine pure_ (i := 1) (N := (some 33)) (v := ?_) (a' := ?_) #[true, true, false, false, false, false, false, false, false, false, false, false, false, false, false, false, false, false, false, false, false, false, false, false, false, false, false, false, false, false, false, false, false, false, false] rfl rfl (by kernel_rfl) (fun _ _ _ h => h) (Or.inl ⟨by rfl, ?_⟩) ?_ ?_
        rotate_left
        · intro w'
          go_simp
          with_reducible rfl
        rotate_left
        · simp only [Act.put, List.setIfInBounds_toArray, List.set_cons_zero, List.set_cons_succ, i64_w, i32_w]; rfl
        refine pure_ (i := 2) (N := (some 34)) (v := ?_) (a' := ?_) #[true, true, true, false, false, false, false, false, false, false, false, false, false, false, false, false, false, false, false, false, false, false, false, false, false, false, false, false, false, false, false, false, false, false, false] rfl rfl (by kernel_rfl) (fun _ _ _ h => h) (Or.inl ⟨by rfl, ?_⟩) ?_ ?_
        rotate_left
        · intro w'
          go_simp
          with_reducible rfl
        rotate_left
        · simp only [Act.put, List.setIfInBounds_toArray, List.set_cons_zero, List.set_cons_succ, i64_w, i32_w]; rfl
        refine pure_ (i := 3) (N := (some 35)) (v := ?_) (a' := ?_) #[true, true, true, true, false, false, false, false, false, false, false, false, false, false, false, false, false, false, false, false, false, false, false, false, false, false, false, false, false, false, false, false, false, false, false] rfl rfl (by kernel_rfl) (fun _ _ _ h => h) (Or.inl ⟨by rfl, ?_⟩) ?_ ?_
        rotate_left
        · intro w'
          go_simp
          with_reducible rfl
        rotate_left
        · simp only [Act.put, List.setIfInBounds_toArray, List.set_cons_zero, List.set_cons_succ, i64_w, i32_w]; rfl
        refine pure_ (i := 4) (N := (some 36)) (v := ?_) (a' := ?_) #[true, true, true, true, true, false, false, false, false, false, false, false, false, false, false, false, false, false, false, false, false, false, false, false, false, false, false, false, false, false, false, false, false, false, false] rfl rfl (by kernel_rfl) (fun _ _ _ h => h) (Or.inl ⟨by rfl, ?_⟩) ?_ ?_
        rotate_left
        · intro w'
          go_simp
          with_reducible rfl
        rotate_left
        · simp only [Act.put, List.setIfInBounds_toArray, List.set_cons_zero, List.set_cons_succ, i64_w, i32_w]; rfl
        refine pure_ (i := 5) (N := (some 37)) (v := ?_) (a' := ?_) #[true, true, true, true, true, true, false, false, false, false, false, false, false, false, false, false, false, false, false, false, false, false, false, false, false, false, false, false, false, false, false, false, false, false, false] rfl rfl (by kernel_rfl) (fun _ _ _ h => h) (Or.inl ⟨by rfl, ?_⟩) ?_ ?_
        rotate_left
        · intro w'
          go_simp
          with_reducible rfl
        rotate_left
        · simp only [Act.put, List.setIfInBounds_toArray, List.set_cons_zero, List.set_cons_succ, i64_w, i32_w]; rfl
        refine pure_ (i := 6) (N := (some 38)) (v := ?_) (a' := ?_) #[true, true, true, true, true, true, true, false, false, false, false, false, false, false, false, false, false, false, false, false, false, false, false, false, false, false, false, false, false, false, false, false, false, false, false] rfl rfl (by kernel_rfl) (fun _ _ _ h => h) (Or.inl ⟨by rfl, ?_⟩) ?_ ?_
        rotate_left
        · intro w'
          go_simp
          with_reducible rfl
        rotate_left
        · simp only [Act.put, List.setIfInBounds_toArray, List.set_cons_zero, List.set_cons_succ, i64_w, i32_w]; rfl
        refine pure_ (i := 7) (N := (some 39)) (v := ?_) (a' := ?_) #[true, true, true, true, true, true, true, true, false, false, false, false, false, false, false, false, false, false, false, false, false, false, false, false, false, false, false, false, false, false, false, false, false, false, false] rfl rfl (by kernel_rfl) (fun _ _ _ h => h) (Or.inl ⟨by rfl, ?_⟩) ?_ ?_
        rotate_left
        · intro w'
          go_simp
          with_reducible rfl
        rotate_left
        · simp only [Act.put, List.setIfInBounds_toArray, List.set_cons_zero, List.set_cons_succ, i64_w, i32_w]; rfl
        refine pure_ (i := 8) (N := (some 40)) (v := undef) (a' := ?_) #[true, true, true, true, true, true, true, true, true, false, false, false, false, false, false, false, false, false, false, false, false, false, false, false, false, false, false, false, false, false, false, false, false, false, false] rfl rfl (by kernel_rfl) (fun _ _ _ h => h) (Or.inr ⟨by rfl, rfl⟩) ?_ ?_
        rotate_left
        · simp only [Act.put, List.setIfInBounds_toArray, List.set_cons_zero, List.set_cons_succ, i64_w, i32_w]; rfl
        refine pure_ (i := 9) (N := (some 41)) (v := undef) (a' := ?_) #[true, true, true, true, true, true, true, true, true, true, false, false, false, false, false, false, false, false, false, false, false, false, false, false, false, false, false, false, false, false, false, false, false, false, false] rfl rfl (by kernel_rfl) (fun _ _ _ h => h) (Or.inr ⟨by rfl, rfl⟩) ?_ ?_
        rotate_left
        · simp only [Act.put, List.setIfInBounds_toArray, List.set_cons_zero, List.set_cons_succ, i64_w, i32_w]; rfl
        refine pure_ (i := 10) (N := (some 42)) (v := undef) (a' := ?_) #[true, true, true, true, true, true, true, true, true, true, true, false, false, false, false, false, false, false, false, false, false, false, false, false, false, false, false, false, false, false, false, false, false, false, false] rfl rfl (by kernel_rfl) (fun _ _ _ h => h) (Or.inr ⟨by rfl, rfl⟩) ?_ ?_
        rotate_left
        · simp only [Act.put, List.setIfInBounds_toArray, List.set_cons_zero, List.set_cons_succ, i64_w, i32_w]; rfl
        refine pure_ (i := 11) (N := (some 43)) (v := undef) (a' := ?_) #[true, true, true, true, true, true, true, true, true, true, true, true, false, false, false, false, false, false, false, false, false, false, false, false, false, false, false, false, false, false, false, false, false, false, false] rfl rfl (by kernel_rfl) (fun _ _ _ h => h) (Or.inr ⟨by rfl, rfl⟩) ?_ ?_
        rotate_left
        · simp only [Act.put, List.setIfInBounds_toArray, List.set_cons_zero, List.set_cons_succ, i64_w, i32_w]; rfl
        refine pure_ (i := 12) (N := (some 44)) (v := undef) (a' := ?_) #[true, true, true, true, true, true, true, true, true, true, true, true, true, false, false, false, false, false, false, false, false, false, false, false, false, false, false, false, false, false, false, false, false, false, false] rfl rfl (by kernel_rfl) (fun _ _ _ h => h) (Or.inr ⟨by rfl, rfl⟩) ?_ ?_
        rotate_left
        · simp only [Act.put, List.setIfInBounds_toArray, List.set_cons_zero, List.set_cons_succ, i64_w, i32_w]; rfl
        refine pure_ (i := 13) (N := (some 45)) (v := undef) (a' := ?_) #[true, true, true, true, true, true, true, true, true, true, true, true, true, true, false, false, false, false, false, false, false, false, false, false, false, false, false, false, false, false, false, false, false, false, false] rfl rfl (by kernel_rfl) (fun _ _ _ h => h) (Or.inr ⟨by rfl, rfl⟩) ?_ ?_
        rotate_left
        · simp only [Act.put, List.setIfInBounds_toArray, List.set_cons_zero, List.set_cons_succ, i64_w, i32_w]; rfl
        refine pure_ (i := 14) (N := (some 46)) (v := undef) (a' := ?_) #[true, true, true, true, true, true, true, true, true, true, true, true, true, true, true, false, false, false, false, false, false, false, false, false, false, false, false, false, false, false, false, false, false, false, false] rfl rfl (by kernel_rfl) (fun _ _ _ h => h) (Or.inr ⟨by rfl, rfl⟩) ?_ ?_
        rotate_left
        · simp only [Act.put, List.setIfInBounds_toArray, List.set_cons_zero, List.set_cons_succ, i64_w, i32_w]; rfl
        refine pure_ (i := 15) (N := (some 47)) (v := undef) (a' := ?_) #[true, true, true, true, true, true, true, true, true, true, true, true, true, true, true, true, false, false, false, false, false, false, false, false, false, false, false, false, false, false, false, false, false, false, false] rfl rfl (by kernel_rfl) (fun _ _ _ h => h) (Or.inr ⟨by rfl, rfl⟩) ?_ ?_
        rotate_left
        · simp only [Act.put, List.setIfInBounds_toArray, List.set_cons_zero, List.set_cons_succ, i64_w, i32_w]; rfl
        refine pure_ (i := 16) (N := (some 48)) (v := undef) (a' := ?_) #[true, true, true, true, true, true, true, true, true, true, true, true, true, true, true, true, true, false, false, false, false, false, false, false, false, false, false, false, false, false, false, false, false, false, false] rfl rfl (by kernel_rfl) (fun _ _ _ h => h) (Or.inr ⟨by rfl, rfl⟩) ?_ ?_
        rotate_left
        · simp only [Act.put, List.setIfInBounds_toArray, List.set_cons_zero, List.set_cons_succ, i64_w, i32_w]; rfl
        refine pure_ (i := 17) (N := (some 49)) (v := undef) (a' := ?_) #[true, true, true, true, true, true, true, true, true, true, true, true, true, true, true, true, true, true, false, false, false, false, false, false, false, false, false, false, false, false, false, false, false, false, false] rfl rfl (by kernel_rfl) (fun _ _ _ h => h) (Or.inr ⟨by rfl, rfl⟩) ?_ ?_
        rotate_left
        · simp only [Act.put, List.setIfInBounds_toArray, List.set_cons_zero, List.set_cons_succ, i64_w, i32_w]; rfl
        refine pure_ (i := 18) (N := (some 50)) (v := undef) (a' := ?_) #[true, true, true, true, true, true, true, true, true, true, true, true, true, true, true, true, true, true, true, false, false, false, false, false, false, false, false, false, false, false, false, false, false, false, false] rfl rfl (by kernel_rfl) (fun _ _ _ h => h) (Or.inr ⟨by rfl, rfl⟩) ?_ ?_
        rotate_left
        · simp only [Act.put, List.setIfInBounds_toArray, List.set_cons_zero, List.set_cons_succ, i64_w, i32_w]; rfl
        refine pure_ (i := 19) (N := (some 51)) (v := undef) (a' := ?_) #[true, true, true, true, true, true, true, true, true, true, true, true, true, true, true, true, true, true, true, true, false, false, false, false, false, false, false, false, false, false, false, false, false, false, false] rfl rfl (by kernel_rfl) (fun _ _ _ h => h) (Or.inr ⟨by rfl, rfl⟩) ?_ ?_
        rotate_left
        · simp only [Act.put, List.setIfInBounds_toArray, List.set_cons_zero, List.set_cons_succ, i64_w, i32_w]; rfl
        refine pure_ (i := 20) (N := (some 52)) (v := undef) (a' := ?_) #[true, true, true, true, true, true, true, true, true, true, true, true, true, true, true, true, true, true, true, true, true, false, false, false, false, false, false, false, false, false, false, false, false, false, false] rfl rfl (by kernel_rfl) (fun _ _ _ h => h) (Or.inr ⟨by rfl, rfl⟩) ?_ ?_
        rotate_left
        · simp only [Act.put, List.setIfInBounds_toArray, List.set_cons_zero, List.set_cons_succ, i64_w, i32_w]; rfl
        refine pure_ (i := 21) (N := (some 53)) (v := undef) (a' := ?_) #[true, true, true, true, true, true, true, true, true, true, true, true, true, true, true, true, true, true, true, true, true, true, false, false, false, false, false, false, false, false, false, false, false, false, false] rfl rfl (by kernel_rfl) (fun _ _ _ h => h) (Or.inr ⟨by rfl, rfl⟩) ?_ ?_
        rotate_left
        · simp only [Act.put, List.setIfInBounds_toArray, List.set_cons_zero, List.set_cons_succ, i64_w, i32_w]; rfl
        refine pure_ (i := 22) (N := (some 54)) (v := undef) (a' := ?_) #[true, true, true, true, true, true, true, true, true, true, true, true, true, true, true, true, true, true, true, true, true, true, true, false, false, false, false, false, false, false, false, false, false, false, false] rfl rfl (by kernel_rfl) (fun _ _ _ h => h) (Or.inr ⟨by rfl, rfl⟩) ?_ ?_
        rotate_left
        · simp only [Act.put, List.setIfInBounds_toArray, List.set_cons_zero, List.set_cons_succ, i64_w, i32_w]; rfl
        refine pure_ (i := 23) (N := (some 55)) (v := undef) (a' := ?_) #[true, true, true, true, true, true, true, true, true, true, true, true, true, true, true, true, true, true, true, true, true, true, true, true, false, false, false, false, false, false, false, false, false, false, false] rfl rfl (by kernel_rfl) (fun _ _ _ h => h) (Or.inr ⟨by rfl, rfl⟩) ?_ ?_
        rotate_left
        · simp only [Act.put, List.setIfInBounds_toArray, List.set_cons_zero, List.set_cons_succ, i64_w, i32_w]; rfl
        refine pure_ (i := 24) (N := (some 56)) (v := undef) (a' := ?_) #[true, true, true, true, true, true, true, true, true, true, true, true, true, true, true, true, true, true, true, true, true, true, true, true, true, false, false, false, false, false, false, false, false, false, false] rfl rfl (by kernel_rfl) (fun _ _ _ h => h) (Or.inr ⟨by rfl, rfl⟩) ?_ ?_
        rotate_left
        · simp only [Act.put, List.setIfInBounds_toArray, List.set_cons_zero, List.set_cons_succ, i64_w, i32_w]; rfl
        refine pure_ (i := 25) (N := (some 57)) (v := undef) (a' := ?_) #[true, true, true, true, true, true, true, true, true, true, true, true, true, true, true, true, true, true, true, true, true, true, true, true, true, true, false, false, false, false, false, false, false, false, false] rfl rfl (by kernel_rfl) (fun _ _ _ h => h) (Or.inr ⟨by rfl, rfl⟩) ?_ ?_
        rotate_left
        · simp only [Act.put, List.setIfInBounds_toArray, List.set_cons_zero, List.set_cons_succ, i64_w, i32_w]; rfl
        refine pure_ (i := 26) (N := (some 58)) (v := undef) (a' := ?_) #[true, true, true, true, true, true, true, true, true, true, true, true, true, true, true, true, true, true, true, true, true, true, true, true, true, true, true, false, false, false, false, false, false, false, false] rfl rfl (by kernel_rfl) (fun _ _ _ h => h) (Or.inr ⟨by rfl, rfl⟩) ?_ ?_
        rotate_left
        · simp only [Act.put, List.setIfInBounds_toArray, List.set_cons_zero, List.set_cons_succ, i64_w, i32_w]; rfl
        refine pure_ (i := 27) (N := (some 59)) (v := undef) (a' := ?_) #[true, true, true, true, true, true, true, true, true, true, true, true, true, true, true, true, true, true, true, true, true, true, true, true, true, true, true, true, false, false, false, false, false, false, false] rfl rfl (by kernel_rfl) (fun _ _ _ h => h) (Or.inr ⟨by rfl, rfl⟩) ?_ ?_
        rotate_left
        · simp only [Act.put, List.setIfInBounds_toArray, List.set_cons_zero, List.set_cons_succ, i64_w, i32_w]; rfl
        refine pure_ (i := 28) (N := (some 60)) (v := undef) (a' := ?_) #[true, true, true, true, true, true, true, true, true, true, true, true, true, true, true, true, true, true, true, true, true, true, true, true, true, true, true, true, true, false, false, false, false, false, false] rfl rfl (by kernel_rfl) (fun _ _ _ h => h) (Or.inr ⟨by rfl, rfl⟩) ?_ ?_
        rotate_left
        · simp only [Act.put, List.setIfInBounds_toArray, List.set_cons_zero, List.set_cons_succ, i64_w, i32_w]; rfl
        refine pure_ (i := 29) (N := (some 61)) (v := undef) (a' := ?_) #[true, true, true, true, true, true, true, true, true, true, true, true, true, true, true, true, true, true, true, true, true, true, true, true, true, true, true, true, true, true, false, false, false, false, false] rfl rfl (by kernel_rfl) (fun _ _ _ h => h) (Or.inr ⟨by rfl, rfl⟩) ?_ ?_
        rotate_left
        · simp only [Act.put, List.setIfInBounds_toArray, List.set_cons_zero, List.set_cons_succ, i64_w, i32_w]; rfl
        refine pure_ (i := 30) (N := (some 62)) (v := undef) (a' := ?_) #[true, true, true, true, true, true, true, true, true, true, true, true, true, true, true, true, true, true, true, true, true, true, true, true, true, true, true, true, true, true, true, false, false, false, false] rfl rfl (by kernel_rfl) (fun _ _ _ h => h) (Or.inr ⟨by rfl, rfl⟩) ?_ ?_
        rotate_left
        · simp only [Act.put, List.setIfInBounds_toArray, List.set_cons_zero, List.set_cons_succ, i64_w, i32_w]; rfl
        refine pure_ (i := 31) (N := (some 63)) (v := undef) (a' := ?_) #[true, true, true, true, true, true, true, true, true, true, true, true, true, true, true, true, true, true, true, true, true, true, true, true, true, true, true, true, true, true, true, true, false, false, false] rfl rfl (by kernel_rfl) (fun _ _ _ h => h) (Or.inr ⟨by rfl, rfl⟩) ?_ ?_
        rotate_left
        · simp only [Act.put, List.setIfInBounds_toArray, List.set_cons_zero, List.set_cons_succ, i64_w, i32_w]; rfl
        refine pure_ (i := 32) (N := (some 64)) (v := undef) (a' := ?_) #[true, true, true, true, true, true, true, true, true, true, true, true, true, true, true, true, true, true, true, true, true, true, true, true, true, true, true, true, true, true, true, true, true, false, false] rfl rfl (by kernel_rfl) (fun _ _ _ h => h) (Or.inr ⟨by rfl, rfl⟩) ?_ ?_
        rotate_left
        · simp only [Act.put, List.setIfInBounds_toArray, List.set_cons_zero, List.set_cons_succ, i64_w, i32_w]; rfl
        refine pure_ (i := 33) (N := (some 65)) (v := ?_) (a' := ?_) #[true, true, true, true, true, true, true, true, true, true, true, true, true, true, true, true, true, true, true, true, true, true, true, true, true, true, true, true, true, true, true, true, true, true, false] rfl rfl (by kernel_rfl) (fun _ _ _ h => h) (Or.inl ⟨by rfl, ?_⟩) ?_ ?_
        rotate_left
        · intro w'
          go_simp
          with_reducible rfl
        rotate_left
        · simp only [Act.put, List.setIfInBounds_toArray, List.set_cons_zero, List.set_cons_succ, i64_w, i32_w]; rfl
        refine pure_ (i := 34) (N := (some 66)) (v := ?_) (a' := ?_) #[true, true, true, true, true, true, true, true, true, true, true, true, true, true, true, true, true, true, true, true, true, true, true, true, true, true, true, true, true, true, true, true, true, true, true] rfl rfl (by kernel_rfl) (fun _ _ _ h => h) (Or.inl ⟨by rfl, ?_⟩) ?_ ?_
        rotate_left
        · intro w'
          go_simp
          with_reducible rfl
        rotate_left
        · simp only [Act.put, List.setIfInBounds_toArray, List.set_cons_zero, List.set_cons_succ, i64_w, i32_w]; rfl
        refine done_ (by kernel_rfl) ?_
        go_wp2_with fail
        go_roundw
        case rel => exact ⟨i + 1, by omega, by simp, E1, E2, E3, Lib.hid HNX.out⟩
        case measure => simp [intOf]; omega
      · have hk : okE T (a, b) = true := by unfold okE; simp only; rw [← HWB.out]; rfl
        rw [hk] at HNX
        clear hk hg5 hT0 hbw
        have E1 := Lib.hid (Kd.S_drew S5.out)
        have E2 := Lib.hid (IsS27.below I5.out (Below.drew (Below.refl w5.heap.size w5)))
        have E3 := Lib.hid (Below.drew B5.out)
        clear S5 I5 B5 K5 R5
        refine start_ (n := 35) (S := fun w' => True) (ds := []) #[false, false, false, false, false, false, false, false, false, false, false, false, false, false, false, false, false, false, false, false, false, false, false, false, false, false, false, false, false, false, false, false, false, false, false] (by kernel_rfl) rfl rfl trivial (fun hHeld => ?_)
        generalize w5.drew = w6 at *
        refine pure_ (i := 0) (N := (some 32)) (v := ?_) (a' := ?_) #[true, false, false, false, false, false, false, false, false, false, false, false, false, false, false, false, false, false, false, false, false, false, false, false, false, false, false, false, false, false, false, false, false, false, false] rfl rfl (by kernel_rfl) (fun _ _ _ h => h) (Or.inl ⟨by rfl, ?_⟩) ?_ ?_
        rotate_left
        · intro w'
          go_simp
          with_reducible rfl
        rotate_left
        · simp only [Act.put, List.setIfInBounds_toArray, List.set_cons_zero, List.set_cons_succ, i64_w, i32_w]; rfl
        refine pure_ (i := 1) (N := (some 33)) (v := ?_) (a' := ?_) #[true, true, false, false, false, false, false, false, false, false, false, false, false, false, false, false, false, false, false, false, false, false, false, false, false, false, false, false, false, false, false, false, false, false, false] rfl rfl (by kernel_rfl) (fun _ _ _ h => h) (Or.inl ⟨by rfl, ?_⟩) ?_ ?_
        rotate_left
        · intro w'
          go_simp
          with_reducible rfl
        rotate_left
        · simp only [Act.put, List.setIfInBounds_toArray, List.set_cons_zero, List.set_cons_succ, i64_w, i32_w]; rfl
        refine pure_ (i := 2) (N := (some 34)) (v := ?_) (a' := ?_) #[true, true, true, false, false, false, false, false, false, false, false, false, false, false, false, false, false, false, false, false, false, false, false, false, false, false, false, false, false, false, false, false, false, false, false] rfl rfl (by kernel_rfl) (fun _ _ _ h => h) (Or.inl ⟨by rfl, ?_⟩) ?_ ?_
        rotate_left
        · intro w'
          go_simp
          with_reducible rfl
        rotate_left
        · simp only [Act.put, List.setIfInBounds_toArray, List.set_cons_zero, List.set_cons_succ, i64_w, i32_w]; rfl
        refine pure_ (i := 3) (N := (some 35)) (v := ?_) (a' := ?_) #[true, true, true, true, false, false, false, false, false, false, false, false, false, false, false, false, false, false, false, false, false, false, false, false, false, false, false, false, false, false, false, false, false, false, false] rfl rfl (by kernel_rfl) (fun _ _ _ h => h) (Or.inl ⟨by rfl, ?_⟩) ?_ ?_
        rotate_left
        · intro w'
          go_simp
          with_reducible rfl
        rotate_left
        · simp only [Act.put, List.setIfInBounds_toArray, List.set_cons_zero, List.set_cons_succ, i64_w, i32_w]; rfl
        refine pure_ (i := 4) (N := (some 36)) (v := ?_) (a' := ?_) #[true, true, true, true, true, false, false, false, false, false, false, false, false, false, false, false, false, false, false, false, false, false, false, false, false, false, false, false, false, false, false, false, false, false, false] rfl rfl (by kernel_rfl) (fun _ _ _ h => h) (Or.inl ⟨by rfl, ?_⟩) ?_ ?_
        rotate_left
        · intro w'
          go_simp
          with_reducible rfl
        rotate_left
        · simp only [Act.put, List.setIfInBounds_toArray, List.set_cons_zero, List.set_cons_succ, i64_w, i32_w]; rfl
        refine pure_ (i := 5) (N := (some 37)) (v := ?_) (a' := ?_) #[true, true, true, true, true, true, false, false, false, false, false, false, false, false, false, false, false, false, false, false, false, false, false, false, false, false, false, false, false, false, false, false, false, false, false] rfl rfl (by kernel_rfl) (fun _ _ _ h => h) (Or.inl ⟨by rfl, ?_⟩) ?_ ?_
        rotate_left
        · intro w'
          go_simp
          with_reducible rfl
        rotate_left
        · simp only [Act.put, List.setIfInBounds_toArray, List.set_cons_zero, List.set_cons_succ, i64_w, i32_w]; rfl
        refine pure_ (i := 6) (N := (some 38)) (v := ?_) (a' := ?_) #[true, true, true, true, true, true, true, false, false, false, false, false, false, false, false, false, false, false, false, false, false, false, false, false, false, false, false, false, false, false, false, false, false, false, false] rfl rfl (by kernel_rfl) (fun _ _ _ h => h) (Or.inl ⟨by rfl, ?_⟩) ?_ ?_
        rotate_left
        · intro w'
          go_simp
          with_reducible rfl
        rotate_left
        · simp only [Act.put, List.setIfInBounds_toArray, List.set_cons_zero, List.set_cons_succ, i64_w, i32_w]; rfl
        refine pure_ (i := 7) (N := (some 39)) (v := ?_) (a' := ?_) #[true, true, true, true, true, true, true, true, false, false, false, false, false, false, false, false, false, false, false, false, false, false, false, false, false, false, false, false, false, false, false, false, false, false, false] rfl rfl (by kernel_rfl) (fun _ _ _ h => h) (Or.inl ⟨by rfl, ?_⟩) ?_ ?_
        rotate_left
        · intro w'
          go_simp
          with_reducible rfl
        rotate_left
        · simp only [Act.put, List.setIfInBounds_toArray, List.set_cons_zero, List.set_cons_succ, i64_w, i32_w]; rfl
        refine pure_ (i := 8) (N := (some 40)) (v := undef) (a' := ?_) #[true, true, true, true, true, true, true, true, true, false, false, false, false, false, false, false, false, false, false, false, false, false, false, false, false, false, false, false, false, false, false, false, false, false, false] rfl rfl (by kernel_rfl) (fun _ _ _ h => h) (Or.inr ⟨by rfl, rfl⟩) ?_ ?_
        rotate_left
        · simp only [Act.put, List.setIfInBounds_toArray, List.set_cons_zero, List.set_cons_succ, i64_w, i32_w]; rfl
        refine pure_ (i := 9) (N := (some 41)) (v := undef) (a' := ?_) #[true, true, true, true, true, true, true, true, true, true, false, false, false, false, false, false, false, false, false, false, false, false, false, false, false, false, false, false, false, false, false, false, false, false, false] rfl rfl (by kernel_rfl) (fun _ _ _ h => h) (Or.inr ⟨by rfl, rfl⟩) ?_ ?_
        rotate_left
        · simp only [Act.put, List.setIfInBounds_toArray, List.set_cons_zero, List.set_cons_succ, i64_w, i32_w]; rfl
        refine pure_ (i := 10) (N := (some 42)) (v := undef) (a' := ?_) #[true, true, true, true, true, true, true, true, true, true, true, false, false, false, false, false, false, false, false, false, false, false, false, false, false, false, false, false, false, false, false, false, false, false, false] rfl rfl (by kernel_rfl) (fun _ _ _ h => h) (Or.inr ⟨by rfl, rfl⟩) ?_ ?_
        rotate_left
        · simp only [Act.put, List.setIfInBounds_toArray, List.set_cons_zero, List.set_cons_succ, i64_w, i32_w]; rfl
        refine pure_ (i := 11) (N := (some 43)) (v := undef) (a' := ?_) #[true, true, true, true, true, true, true, true, true, true, true, true, false, false, false, false, false, false, false, false, false, false, false, false, false, false, false, false, false, false, false, false, false, false, false] rfl rfl (by kernel_rfl) (fun _ _ _ h => h) (Or.inr ⟨by rfl, rfl⟩) ?_ ?_
        rotate_left
        · simp only [Act.put, List.setIfInBounds_toArray, List.set_cons_zero, List.set_cons_succ, i64_w, i32_w]; rfl
        refine pure_ (i := 12) (N := (some 44)) (v := undef) (a' := ?_) #[true, true, true, true, true, true, true, true, true, true, true, true, true, false, false, false, false, false, false, false, false, false, false, false, false, false, false, false, false, false, false, false, false, false, false] rfl rfl (by kernel_rfl) (fun _ _ _ h => h) (Or.inr ⟨by rfl, rfl⟩) ?_ ?_
        rotate_left
        · simp only [Act.put, List.setIfInBounds_toArray, List.set_cons_zero, List.set_cons_succ, i64_w, i32_w]; rfl
        refine pure_ (i := 13) (N := (some 45)) (v := undef) (a' := ?_) #[true, true, true, true, true, true, true, true, true, true, true, true, true, true, false, false, false, false, false, false, false, false, false, false, false, false, false, false, false, false, false, false, false, false, false] rfl rfl (by kernel_rfl) (fun _ _ _ h => h) (Or.inr ⟨by rfl, rfl⟩) ?_ ?_
        rotate_left
        · simp only [Act.put, List.setIfInBounds_toArray, List.set_cons_zero, List.set_cons_succ, i64_w, i32_w]; rfl
        refine pure_ (i := 14) (N := (some 46)) (v := undef) (a' := ?_) #[true, true, true, true, true, true, true, true, true, true, true, true, true, true, true, false, false, false, false, false, false, false, false, false, false, false, false, false, false, false, false, false, false, false, false] rfl rfl (by kernel_rfl) (fun _ _ _ h => h) (Or.inr ⟨by rfl, rfl⟩) ?_ ?_
        rotate_left
        · simp only [Act.put, List.setIfInBounds_toArray, List.set_cons_zero, List.set_cons_succ, i64_w, i32_w]; rfl
        refine pure_ (i := 15) (N := (some 47)) (v := undef) (a' := ?_) #[true, true, true, true, true, true, true, true, true, true, true, true, true, true, true, true, false, false, false, false, false, false, false, false, false, false, false, false, false, false, false, false, false, false, false] rfl rfl (by kernel_rfl) (fun _ _ _ h => h) (Or.inr ⟨by rfl, rfl⟩) ?_ ?_
        rotate_left
        · simp only [Act.put, List.setIfInBounds_toArray, List.set_cons_zero, List.set_cons_succ, i64_w, i32_w]; rfl
        refine pure_ (i := 16) (N := (some 48)) (v := undef) (a' := ?_) #[true, true, true, true, true, true, true, true, true, true, true, true, true, true, true, true, true, false, false, false, false, false, false, false, false, false, false, false, false, false, false, false, false, false, false] rfl rfl (by kernel_rfl) (fun _ _ _ h => h) (Or.inr ⟨by rfl, rfl⟩) ?_ ?_
        rotate_left
        · simp only [Act.put, List.setIfInBounds_toArray, List.set_cons_zero, List.set_cons_succ, i64_w, i32_w]; rfl
        refine pure_ (i := 17) (N := (some 49)) (v := undef) (a' := ?_) #[true, true, true, true, true, true, true, true, true, true, true, true, true, true, true, true, true, true, false, false, false, false, false, false, false, false, false, false, false, false, false, false, false, false, false] rfl rfl (by kernel_rfl) (fun _ _ _ h => h) (Or.inr ⟨by rfl, rfl⟩) ?_ ?_
        rotate_left
        · simp only [Act.put, List.setIfInBounds_toArray, List.set_cons_zero, List.set_cons_succ, i64_w, i32_w]; rfl
        refine pure_ (i := 18) (N := (some 50)) (v := undef) (a' := ?_) #[true, true, true, true, true, true, true, true, true, true, true, true, true, true, true, true, true, true, true, false, false, false, false, false, false, false, false, false, false, false, false, false, false, false, false] rfl rfl (by kernel_rfl) (fun _ _ _ h => h) (Or.inr ⟨by rfl, rfl⟩) ?_ ?_
        rotate_left
        · simp only [Act.put, List.setIfInBounds_toArray, List.set_cons_zero, List.set_cons_succ, i64_w, i32_w]; rfl
        refine pure_ (i := 19) (N := (some 51)) (v := undef) (a' := ?_) #[true, true, true, true, true, true, true, true, true, true, true, true, true, true, true, true, true, true, true, true, false, false, false, false, false, false, false, false, false, false, false, false, false, false, false] rfl rfl (by kernel_rfl) (fun _ _ _ h => h) (Or.inr ⟨by rfl, rfl⟩) ?_ ?_
        rotate_left
        · simp only [Act.put, List.setIfInBounds_toArray, List.set_cons_zero, List.set_cons_succ, i64_w, i32_w]; rfl
        refine pure_ (i := 20) (N := (some 52)) (v := undef) (a' := ?_) #[true, true, true, true, true, true, true, true, true, true, true, true, true, true, true, true, true, true, true, true, true, false, false, false, false, false, false, false, false, false, false, false, false, false, false] rfl rfl (by kernel_rfl) (fun _ _ _ h => h) (Or.inr ⟨by rfl, rfl⟩) ?_ ?_
        rotate_left
        · simp only [Act.put, List.setIfInBounds_toArray, List.set_cons_zero, List.set_cons_succ, i64_w, i32_w]; rfl
        refine pure_ (i := 21) (N := (some 53)) (v := undef) (a' := ?_) #[true, true, true, true, true, true, true, true, true, true, true, true, true, true, true, true, true, true, true, true, true, true, false, false, false, false, false, false, false, false, false, false, false, false, false] rfl rfl (by kernel_rfl) (fun _ _ _ h => h) (Or.inr ⟨by rfl, rfl⟩) ?_ ?_
        rotate_left
        · simp only [Act.put, List.setIfInBounds_toArray, List.set_cons_zero, List.set_cons_succ, i64_w, i32_w]; rfl
        refine pure_ (i := 22) (N := (some 54)) (v := undef) (a' := ?_) #[true, true, true, true, true, true, true, true, true, true, true, true, true, true, true, true, true, true, true, true, true, true, true, false, false, false, false, false, false, false, false, false, false, false, false] rfl rfl (by kernel_rfl) (fun _ _ _ h => h) (Or.inr ⟨by rfl, rfl⟩) ?_ ?_
        rotate_left
        · simp only [Act.put, List.setIfInBounds_toArray, List.set_cons_zero, List.set_cons_succ, i64_w, i32_w]; rfl
        refine pure_ (i := 23) (N := (some 55)) (v := undef) (a' := ?_) #[true, true, true, true, true, true, true, true, true, true, true, true, true, true, true, true, true, true, true, true, true, true, true, true, false, false, false, false, false, false, false, false, false, false, false] rfl rfl (by kernel_rfl) (fun _ _ _ h => h) (Or.inr ⟨by rfl, rfl⟩) ?_ ?_
        rotate_left
        · simp only [Act.put, List.setIfInBounds_toArray, List.set_cons_zero, List.set_cons_succ, i64_w, i32_w]; rfl
        refine pure_ (i := 24) (N := (some 56)) (v := undef) (a' := ?_) #[true, true, true, true, true, true, true, true, true, true, true, true, true, true, true, true, true, true, true, true, true, true, true, true, true, false, false, false, false, false, false, false, false, false, false] rfl rfl (by kernel_rfl) (fun _ _ _ h => h) (Or.inr ⟨by rfl, rfl⟩) ?_ ?_
        rotate_left
        · simp only [Act.put, List.setIfInBounds_toArray, List.set_cons_zero, List.set_cons_succ, i64_w, i32_w]; rfl
        refine pure_ (i := 25) (N := (some 57)) (v := undef) (a' := ?_) #[true, true, true, true, true, true, true, true, true, true, true, true, true, true, true, true, true, true, true, true, true, true, true, true, true, true, false, false, false, false, false, false, false, false, false] rfl rfl (by kernel_rfl) (fun _ _ _ h => h) (Or.inr ⟨by rfl, rfl⟩) ?_ ?_
        rotate_left
        · simp only [Act.put, List.setIfInBounds_toArray, List.set_cons_zero, List.set_cons_succ, i64_w, i32_w]; rfl
        refine pure_ (i := 26) (N := (some 58)) (v := undef) (a' := ?_) #[true, true, true, true, true, true, true, true, true, true, true, true, true, true, true, true, true, true, true, true, true, true, true, true, true, true, true, false, false, false, false, false, false, false, false] rfl rfl (by kernel_rfl) (fun _ _ _ h => h) (Or.inr ⟨by rfl, rfl⟩) ?_ ?_
        rotate_left
        · simp only [Act.put, List.setIfInBounds_toArray, List.set_cons_zero, List.set_cons_succ, i64_w, i32_w]; rfl
        refine pure_ (i := 27) (N := (some 59)) (v := undef) (a' := ?_) #[true, true, true, true, true, true, true, true, true, true, true, true, true, true, true, true, true, true, true, true, true, true, true, true, true, true, true, true, false, false, false, false, false, false, false] rfl rfl (by kernel_rfl) (fun _ _ _ h => h) (Or.inr ⟨by rfl, rfl⟩) ?_ ?_
        rotate_left
        · simp only [Act.put, List.setIfInBounds_toArray, List.set_cons_zero, List.set_cons_succ, i64_w, i32_w]; rfl
        refine pure_ (i := 28) (N := (some 60)) (v := undef) (a' := ?_) #[true, true, true, true, true, true, true, true, true, true, true, true, true, true, true, true, true, true, true, true, true, true, true, true, true, true, true, true, true, false, false, false, false, false, false] rfl rfl (by kernel_rfl) (fun _ _ _ h => h) (Or.inr ⟨by rfl, rfl⟩) ?_ ?_
        rotate_left
        · simp only [Act.put, List.setIfInBounds_toArray, List.set_cons_zero, List.set_cons_succ, i64_w, i32_w]; rfl
        refine pure_ (i := 29) (N := (some 61)) (v := undef) (a' := ?_) #[true, true, true, true, true, true, true, true, true, true, true, true, true, true, true, true, true, true, true, true, true, true, true, true, true, true, true, true, true, true, false, false, false, false, false] rfl rfl (by kernel_rfl) (fun _ _ _ h => h) (Or.inr ⟨by rfl, rfl⟩) ?_ ?_
        rotate_left
        · simp only [Act.put, List.setIfInBounds_toArray, List.set_cons_zero, List.set_cons_succ, i64_w, i32_w]; rfl
        refine pure_ (i := 30) (N := (some 62)) (v := undef) (a' := ?_) #[true, true, true, true, true, true, true, true, true, true, true, true, true, true, true, true, true, true, true, true, true, true, true, true, true, true, true, true, true, true, true, false, false, false, false] rfl rfl (by kernel_rfl) (fun _ _ _ h => h) (Or.inr ⟨by rfl, rfl⟩) ?_ ?_
        rotate_left
        · simp only [Act.put, List.setIfInBounds_toArray, List.set_cons_zero, List.set_cons_succ, i64_w, i32_w]; rfl
        refine pure_ (i := 31) (N := (some 63)) (v := undef) (a' := ?_) #[true, true, true, true, true, true, true, true, true, true, true, true, true, true, true, true, true, true, true, true, true, true, true, true, true, true, true, true, true, true, true, true, false, false, false] rfl rfl (by kernel_rfl) (fun _ _ _ h => h) (Or.inr ⟨by rfl, rfl⟩) ?_ ?_
        rotate_left
        · simp only [Act.put, List.setIfInBounds_toArray, List.set_cons_zero, List.set_cons_succ, i64_w, i32_w]; rfl
        refine pure_ (i := 32) (N := (some 64)) (v := undef) (a' := ?_) #[true, true, true, true, true, true, true, true, true, true, true, true, true, true, true, true, true, true, true, true, true, true, true, true, true, true, true, true, true, true, true, true, true, false, false] rfl rfl (by kernel_rfl) (fun _ _ _ h => h) (Or.inr ⟨by rfl, rfl⟩) ?_ ?_
        rotate_left
        · simp only [Act.put, List.setIfInBounds_toArray, List.set_cons_zero, List.set_cons_succ, i64_w, i32_w]; rfl
        refine pure_ (i := 33) (N := (some 65)) (v := ?_) (a' := ?_) #[true, true, true, true, true, true, true, true, true, true, true, true, true, true, true, true, true, true, true, true, true, true, true, true, true, true, true, true, true, true, true, true, true, true, false] rfl rfl (by kernel_rfl) (fun _ _ _ h => h) (Or.inl ⟨by rfl, ?_⟩) ?_ ?_
        rotate_left
        · intro w'
          go_simp
          with_reducible rfl
        rotate_left
        · simp only [Act.put, List.setIfInBounds_toArray, List.set_cons_zero, List.set_cons_succ, i64_w, i32_w]; rfl
        refine pure_ (i := 34) (N := (some 66)) (v := ?_) (a' := ?_) #[true, true, true, true, true, true, true, true, true, true, true, true, true, true, true, true, true, true, true, true, true, true, true, true, true, true, true, true, true, true, true, true, true, true, true] rfl rfl (by kernel_rfl) (fun _ _ _ h => h) (Or.inl ⟨by rfl, ?_⟩) ?_ ?_
        rotate_left
        · intro w'
          go_simp
          with_reducible rfl
        rotate_left
        · simp only [Act.put, List.setIfInBounds_toArray, List.set_cons_zero, List.set_cons_succ, i64_w, i32_w]; rfl
        refine done_ (by kernel_rfl) ?_
        go_wp2_with fail
        go_roundw
        case rel => exact ⟨i + 1, by omega, by simp, E1, E2, E3, Lib.hid HNX.out⟩
        case measure => simp [intOf]; omega
      · obtain ⟨z0, z1⟩ := HWR.out y0 (by simp)
        obtain ⟨z2, z3⟩ := HWR.out y1 (by simp)
        obtain ⟨n0, rfl⟩ : ∃ n0 : Nat, y0 = (n0 : Int) := ⟨y0.toNat, by omega⟩
        obtain ⟨n1, rfl⟩ : ∃ n1 : Nat, y1 = (n1 : Int) := ⟨y1.toNat, by omega⟩
        have m0 : n0 < T.length := by omega
        have m1 : n1 < T.length := by omega
        have hk : okE T (a, b) = (goesB T[n0] (a, b) != goesB T[n1] (a, b)) := by
          unfold okE
          simp only
          rw [← HWB.out]
          simp [List.getD_eq_getElem?_getD, m0, m1]
        obtain ⟨tb, C0, cc0, rfl, t0, hc0, hC0⟩ := at_L3 hT0 (n0 : Int) (by omega) (by omega)
        obtain ⟨_, C1, cc1, e0, t1, hc1, hC1⟩ := at_L3 hT0 (n1 : Int) (by omega) (by omega)
        cases e0
        rw [rdL T n0 m0, Int.toNat_natCast] at t0
        rw [rdL T n0 m0] at hc0 hC0
        rw [rdL T n1 m1, Int.toNat_natCast] at t1
        rw [rdL T n1 m1] at hc1 hC1
        obtain ⟨u0, u1, u2, et0, _⟩ := tri_natE (List.all_eq_true.1 HA.out T[n0] (List.getElem_mem m0))
        obtain ⟨v0, v1, v2, et1, _⟩ := tri_natE (List.all_eq_true.1 HA.out T[n1] (List.getElem_mem m1))
        rw [et0] at t0 hc0 hC0
        rw [et1] at t1 hc1 hC1
        rw [et0, et1] at hk
        replace t0 : w0.cell? (tb.add n0) = some (.slice C0 3 cc0) := t0
        replace t1 : w0.cell? (tb.add n1) = some (.slice C1 3 cc1) := t1
        obtain ⟨gl, cr, er, _, _, _⟩ := Kd.R_form R5.out (by simp)
        obtain ⟨rfl, rfl⟩ : Al = some ⟨gl, 0, none⟩ ∧ cl = cr := by injection er with h1 _ h3; exact ⟨h1, h3⟩
        obtain ⟨r0, _⟩ := Kd.R_celln (0 : Int) R5.out 0 (by omega) (by simp)
        obtain ⟨r1, _⟩ := Kd.R_celln (0 : Int) R5.out 1 (by omega) (by simp)
        replace r0 : w5.cell? ⟨gl, 0, none⟩ = some (.int .i64 (n0 : Int)) := r0
        replace r1 : w5.cell? ⟨gl, 1, none⟩ = some (.int .i64 (n1 : Int)) := r1
        have HS := Lib.hid (fun (W : World) (h : Below w5.heap.size w5 W) => (⟨oldc h ((blk_cell hg5 1).trans rfl), oldc h r0, oldc h r1, oldc (below_then hbw h hbw.size) t0, oldc (below_then hbw h hbw.size) t1⟩ : W.cell? ⟨g, 1, none⟩ = some (.slice (some tb) T.length te) ∧ W.cell? ⟨gl, 0, none⟩ = some (.int .i64 (n0 : Int)) ∧ W.cell? ⟨gl, 1, none⟩ = some (.int .i64 (n1 : Int)) ∧ W.cell? (tb.add n0) = some (.slice C0 3 cc0) ∧ W.cell? (tb.add n1) = some (.slice C1 3 cc1)))
        have HG0 := Lib.hid (fun (W : World) (h : Below w5.heap.size w5 W) => spec_l02Goes.calls C0 cc0 _ (a : Int) (b : Int) _ W (Kd.C_below hC0 (below_then hbw h hbw.size)) hc0 (goes_f u0 u1 u2 a b))
        have HG1 := Lib.hid (fun (W : World) (h : Below w5.heap.size w5 W) => spec_l02Goes.calls C1 cc1 _ (a : Int) (b : Int) _ W (Kd.C_below hC1 (below_then hbw h hbw.size)) hc1 (goes_f v0 v1 v2 a b))
        have SH5 := HS.out _ (Below.drew (Below.refl w5.heap.size w5))
        generalize goesB [(u0 : Int), (u1 : Int), (u2 : Int)] (a, b) = q0 at *
        generalize goesB [(v0 : Int), (v1 : Int), (v2 : Int)] (a, b) = q1 at *
        have HK2 := Lib.hid hk
        have j0 : (n0 : Int) < (T.length : Int) := by omega
        have j1 : (n1 : Int) < (T.length : Int) := by omega
        have j2 : (0 : Int) ≤ (n0 : Int) := by omega
        have j3 : (0 : Int) ≤ (n1 : Int) := by omega
        clear hk hg5 hT0 hbw t0 t1 hc0 hc1 hC0 hC1 r0 r1 et0 et1 er
        refine start_ (n := 35) (S := fun w' => w'.cell? ⟨g, 1, none⟩ = some (.slice (some tb) T.length te) ∧ w'.cell? ⟨gl, 0, none⟩ = some (.int .i64 (n0 : Int)) ∧ w'.cell? ⟨gl, 1, none⟩ = some (.int .i64 (n1 : Int)) ∧ w'.cell? (tb.add n0) = some (.slice C0 3 cc0) ∧ w'.cell? (tb.add n1) = some (.slice C1 3 cc1)) (ds := []) #[false, false, false, false, false, false, false, false, false, false, false, false, false, false, false, false, false, false, false, false, false, false, false, false, false, false, false, false, false, false, false, false, false, false, false] (by kernel_rfl) rfl rfl SH5 (fun hHeld => ?_)
        have D6 := Lib.hid (Below.drew (Below.refl w5.heap.size w5))
        generalize w5.drew = w6 at *
        refine pure_ (i := 0) (N := (some 32)) (v := ?_) (a' := ?_) #[true, false, false, false, false, false, false, false, false, false, false, false, false, false, false, false, false, false, false, false, false, false, false, false, false, false, false, false, false, false, false, false, false, false, false] rfl rfl (by kernel_rfl) (fun _ _ _ h => h) (Or.inl ⟨by rfl, ?_⟩) ?_ ?_
        rotate_left
        · intro w'
          go_simp
          with_reducible rfl
        rotate_left
        · simp only [Act.put, List.setIfInBounds_toArray, List.set_cons_zero, List.set_cons_succ, i64_w, i32_w]; rfl
        refine pure_ (i := 1) (N := (some 33)) (v := ?_) (a' := ?_) #[true, true, false, false, false, false, false, false, false, false, false, false, false, false, false, false, false, false, false, false, false, false, false, false, false, false, false, false, false, false, false, false, false, false, false] rfl rfl (by kernel_rfl) (fun _ _ _ h => h) (Or.inl ⟨by rfl, ?_⟩) ?_ ?_
        rotate_left
        · intro w'
          go_simp
          with_reducible rfl
        rotate_left
        · simp only [Act.put, List.setIfInBounds_toArray, List.set_cons_zero, List.set_cons_succ, i64_w, i32_w]; rfl
        refine pure_ (i := 2) (N := (some 34)) (v := ?_) (a' := ?_) #[true, true, true, false, false, false, false, false, false, false, false, false, false, false, false, false, false, false, false, false, false, false, false, false, false, false, false, false, false, false, false, false, false, false, false] rfl rfl (by kernel_rfl) (fun _ _ _ h => h) (Or.inl ⟨by rfl, ?_⟩) ?_ ?_
        rotate_left
        · intro w'
          go_simp
          with_reducible rfl
        rotate_left
        · simp only [Act.put, List.setIfInBounds_toArray, List.set_cons_zero, List.set_cons_succ, i64_w, i32_w]; rfl
        refine pure_ (i := 3) (N := (some 35)) (v := ?_) (a' := ?_) #[true, true, true, true, false, false, false, false, false, false, false, false, false, false, false, false, false, false, false, false, false, false, false, false, false, false, false, false, false, false, false, false, false, false, false] rfl rfl (by kernel_rfl) (fun _ _ _ h => h) (Or.inl ⟨by rfl, ?_⟩) ?_ ?_
        rotate_left
        · intro w'
          go_simp
          with_reducible rfl
        rotate_left
        · simp only [Act.put, List.setIfInBounds_toArray, List.set_cons_zero, List.set_cons_succ, i64_w, i32_w]; rfl
        refine pure_ (i := 4) (N := (some 36)) (v := ?_) (a' := ?_) #[true, true, true, true, true, false, false, false, false, false, false, false, false, false, false, false, false, false, false, false, false, false, false, false, false, false, false, false, false, false, false, false, false, false, false] rfl rfl (by kernel_rfl) (fun _ _ _ h => h) (Or.inl ⟨by rfl, ?_⟩) ?_ ?_
        rotate_left
        · intro w'
          go_simp
          with_reducible rfl
        rotate_left
        · simp only [Act.put, List.setIfInBounds_toArray, List.set_cons_zero, List.set_cons_succ, i64_w, i32_w]; rfl
        refine pure_ (i := 5) (N := (some 37)) (v := ?_) (a' := ?_) #[true, true, true, true, true, true, false, false, false, false, false, false, false, false, false, false, false, false, false, false, false, false, false, false, false, false, false, false, false, false, false, false, false, false, false] rfl rfl (by kernel_rfl) (fun _ _ _ h => h) (Or.inl ⟨by rfl, ?_⟩) ?_ ?_
        rotate_left
        · intro w'
          go_simp
          with_reducible rfl
        rotate_left
        · simp only [Act.put, List.setIfInBounds_toArray, List.set_cons_zero, List.set_cons_succ, i64_w, i32_w]; rfl
        refine pure_ (i := 6) (N := (some 38)) (v := ?_) (a' := ?_) #[true, true, true, true, true, true, true, false, false, false, false, false, false, false, false, false, false, false, false, false, false, false, false, false, false, false, false, false, false, false, false, false, false, false, false] rfl rfl (by kernel_rfl) (fun _ _ _ h => h) (Or.inl ⟨by rfl, ?_⟩) ?_ ?_
        rotate_left
        · intro w'
          go_simp
          with_reducible rfl
        rotate_left
        · simp only [Act.put, List.setIfInBounds_toArray, List.set_cons_zero, List.set_cons_succ, i64_w, i32_w]; rfl
        refine pure_ (i := 7) (N := (some 39)) (v := ?_) (a' := ?_) #[true, true, true, true, true, true, true, true, false, false, false, false, false, false, false, false, false, false, false, false, false, false, false, false, false, false, false, false, false, false, false, false, false, false, false] rfl rfl (by kernel_rfl) (fun _ _ _ h => h) (Or.inl ⟨by rfl, ?_⟩) ?_ ?_
        rotate_left
        · intro w'
          go_simp
          with_reducible rfl
        rotate_left
        · simp only [Act.put, List.setIfInBounds_toArray, List.set_cons_zero, List.set_cons_succ, i64_w, i32_w]; rfl
        refine pure_ (i := 8) (N := (some 40)) (v := ?_) (a' := ?_) #[true, true, true, true, true, true, true, true, true, false, false, false, false, false, false, false, false, false, false, false, false, false, false, false, false, false, false, false, false, false, false, false, false, false, false] rfl rfl (by kernel_rfl) (fun _ _ _ h => h) (Or.inl ⟨by rfl, ?_⟩) ?_ ?_
        rotate_left
        · intro w'
          go_simp
          with_reducible rfl
        rotate_left
        · simp only [Act.put, List.setIfInBounds_toArray, List.set_cons_zero, List.set_cons_succ, i64_w, i32_w]; rfl
        refine pure_ (i := 9) (N := (some 41)) (v := ?_) (a' := ?_) #[true, true, true, true, true, true, true, true, true, true, false, false, false, false, false, false, false, false, false, false, false, false, false, false, false, false, false, false, false, false, false, false, false, false, false] rfl rfl (by kernel_rfl) (fun _ _ _ h => h) (Or.inl ⟨by rfl, ?_⟩) ?_ ?_
        rotate_left
        · intro w'
          go_simp
          with_reducible rfl
        rotate_left
        · simp only [Act.put, List.setIfInBounds_toArray, List.set_cons_zero, List.set_cons_succ, i64_w, i32_w]; rfl
        refine pure_ (i := 10) (N := (some 42)) (v := ?_) (a' := ?_) #[true, true, true, true, true, true, true, true, true, true, true, false, false, false, false, false, false, false, false, false, false, false, false, false, false, false, false, false, false, false, false, false, false, false, false] rfl rfl (by kernel_rfl) (fun _ _ _ h => h) (Or.inl ⟨by rfl, ?_⟩) ?_ ?_
        rotate_left
        · intro w'
          go_simp
          with_reducible rfl
        rotate_left
        · simp only [Act.put, List.setIfInBounds_toArray, List.set_cons_zero, List.set_cons_succ, i64_w, i32_w]; rfl
        refine pure_ (i := 12) (N := (some 44)) (v := ?_) (a' := ?_) #[true, true, true, true, true, true, true, true, true, true, true, false, true, false, false, false, false, false, false, false, false, false, false, false, false, false, false, false, false, false, false, false, false, false, false] rfl rfl (by kernel_rfl) (fun _ _ _ h => h) (Or.inl ⟨by rfl, ?_⟩) ?_ ?_
        rotate_left
        · intro w'
          go_simp
          with_reducible rfl
        rotate_left
        · simp only [Act.put, List.setIfInBounds_toArray, List.set_cons_zero, List.set_cons_succ, i64_w, i32_w]; rfl
        refine pure_ (i := 13) (N := (some 45)) (v := ?_) (a' := ?_) #[true, true, true, true, true, true, true, true, true, true, true, false, true, true, false, false, false, false, false, false, false, false, false, false, false, false, false, false, false, false, false, false, false, false, false] rfl rfl (by kernel_rfl) (fun _ _ _ h => h) (Or.inl ⟨by rfl, ?_⟩) ?_ ?_
        rotate_left
        · intro w'
          go_simp
          with_reducible rfl
        rotate_left
        · simp only [Act.put, List.setIfInBounds_toArray, List.set_cons_zero, List.set_cons_succ, i64_w, i32_w]; rfl
        refine pure_ (i := 17) (N := (some 49)) (v := ?_) (a' := ?_) #[true, true, true, true, true, true, true, true, true, true, true, false, true, true, false, false, false, true, false, false, false, false, false, false, false, false, false, false, false, false, false, false, false, false, false] rfl rfl (by kernel_rfl) (fun _ _ _ h => h) (Or.inl ⟨by rfl, ?_⟩) ?_ ?_
        rotate_left
        · intro w'
          go_simp
          with_reducible rfl
        rotate_left
        · simp only [Act.put, List.setIfInBounds_toArray, List.set_cons_zero, List.set_cons_succ, i64_w, i32_w]; rfl
        refine pure_ (i := 18) (N := (some 50)) (v := ?_) (a' := ?_) #[true, true, true, true, true, true, true, true, true, true, true, false, true, true, false, false, false, true, true, false, false, false, false, false, false, false, false, false, false, false, false, false, false, false, false] rfl rfl (by kernel_rfl) (fun _ _ _ h => h) (Or.inl ⟨by rfl, ?_⟩) ?_ ?_
        rotate_left
        · intro w'
          go_simp
          with_reducible rfl
        rotate_left
        · simp only [Act.put, List.setIfInBounds_toArray, List.set_cons_zero, List.set_cons_succ, i64_w, i32_w]; rfl
        refine pure_ (i := 20) (N := (some 52)) (v := ?_) (a' := ?_) #[true, true, true, true, true, true, true, true, true, true, true, false, true, true, false, false, false, true, true, false, true, false, false, false, false, false, false, false, false, false, false, false, false, false, false] rfl rfl (by kernel_rfl) (fun _ _ _ h => h) (Or.inl ⟨by rfl, ?_⟩) ?_ ?_
        rotate_left
        · intro w'
          go_simp
          with_reducible rfl
        rotate_left
        · simp only [Act.put, List.setIfInBounds_toArray, List.set_cons_zero, List.set_cons_succ, i64_w, i32_w]; rfl
        refine pure_ (i := 21) (N := (some 53)) (v := ?_) (a' := ?_) #[true, true, true, true, true, true, true, true, true, true, true, false, true, true, false, false, false, true, true, false, true, true, false, false, false, false, false, false, false, false, false, false, false, false, false] rfl rfl (by kernel_rfl) (fun _ _ _ h => h) (Or.inl ⟨by rfl, ?_⟩) ?_ ?_
        rotate_left
        · intro w'
          go_simp
          with_reducible rfl
        rotate_left
        · simp only [Act.put, List.setIfInBounds_toArray, List.set_cons_zero, List.set_cons_succ, i64_w, i32_w]; rfl
        refine pure_ (i := 22) (N := (some 54)) (v := ?_) (a' := ?_) #[true, true, true, true, true, true, true, true, true, true, true, false, true, true, false, false, false, true, true, false, true, true, true, false, false, false, false, false, false, false, false, false, false, false, false] rfl rfl (by kernel_rfl) (fun _ _ _ h => h) (Or.inl ⟨by rfl, ?_⟩) ?_ ?_
        rotate_left
        · intro w'
          go_simp
          with_reducible rfl
        rotate_left
        · simp only [Act.put, List.setIfInBounds_toArray, List.set_cons_zero, List.set_cons_succ, i64_w, i32_w]; rfl
        refine pure_ (i := 24) (N := (some 56)) (v := ?_) (a' := ?_) #[true, true, true, true, true, true, true, true, true, true, true, false, true, true, false, false, false, true, true, false, true, true, true, false, true, false, false, false, false, false, false, false, false, false, false] rfl rfl (by kernel_rfl) (fun _ _ _ h => h) (Or.inl ⟨by rfl, ?_⟩) ?_ ?_
        rotate_left
        · intro w'
          go_simp
          with_reducible rfl
        rotate_left
        · simp only [Act.put, List.setIfInBounds_toArray, List.set_cons_zero, List.set_cons_succ, i64_w, i32_w]; rfl
        refine pure_ (i := 25) (N := (some 57)) (v := ?_) (a' := ?_) #[true, true, true, true, true, true, true, true, true, true, true, false, true, true, false, false, false, true, true, false, true, true, true, false, true, true, false, false, false, false, false, false, false, false, false] rfl rfl (by kernel_rfl) (fun _ _ _ h => h) (Or.inl ⟨by rfl, ?_⟩) ?_ ?_
        rotate_left
        · intro w'
          go_simp
          with_reducible rfl
        rotate_left
        · simp only [Act.put, List.setIfInBounds_toArray, List.set_cons_zero, List.set_cons_succ, i64_w, i32_w]; rfl
        refine pure_ (i := 29) (N := (some 61)) (v := ?_) (a' := ?_) #[true, true, true, true, true, true, true, true, true, true, true, false, true, true, false, false, false, true, true, false, true, true, true, false, true, true, false, false, false, true, false, false, false, false, false] rfl rfl (by kernel_rfl) (fun _ _ _ h => h) (Or.inl ⟨by rfl, ?_⟩) ?_ ?_
        rotate_left
        · intro w'
          go_simp
          with_reducible rfl
        rotate_left
        · simp only [Act.put, List.setIfInBounds_toArray, List.set_cons_zero, List.set_cons_succ, i64_w, i32_w]; rfl
        refine pure_ (i := 30) (N := (some 62)) (v := ?_) (a' := ?_) #[true, true, true, true, true, true, true, true, true, true, true, false, true, true, false, false, false, true, true, false, true, true, true, false, true, true, false, false, false, true, true, false, false, false, false] rfl rfl (by kernel_rfl) (fun _ _ _ h => h) (Or.inl ⟨by rfl, ?_⟩) ?_ ?_
        rotate_left
        · intro w'
          go_simp
          with_reducible rfl
        rotate_left
        · simp only [Act.put, List.setIfInBounds_toArray, List.set_cons_zero, List.set_cons_succ, i64_w, i32_w]; rfl
        refine take_ (i := 11) (N := (some 43)) (v := ?_) (a' := ?_) #[true, true, true, true, true, true, true, true, true, true, true, true, true, true, false, false, false, true, true, false, true, true, true, false, true, true, false, false, false, true, true, false, false, false, false] rfl rfl (by kernel_rfl) (fun _ _ _ h => h) (Or.inl ⟨by rfl, ?_⟩) hHeld ?_ ?_
        rotate_left
        · intro w' hSw
          (try dsimp only at hSw)
          go_simp
          with_reducible rfl
        rotate_left
        · simp only [Act.put, List.setIfInBounds_toArray, List.set_cons_zero, List.set_cons_succ, i64_w, i32_w]; rfl
        refine take_ (i := 14) (N := (some 46)) (v := ?_) (a' := ?_) #[true, true, true, true, true, true, true, true, true, true, true, true, true, true, true, false, false, true, true, false, true, true, true, false, true, true, false, false, false, true, true, false, false, false, false] rfl rfl (by kernel_rfl) (fun _ _ _ h => h) (Or.inl ⟨by rfl, ?_⟩) hHeld ?_ ?_
        rotate_left
        · intro w' hSw
          (try dsimp only at hSw)
          go_simp
          with_reducible rfl
        rotate_left
        · simp only [Act.put, List.setIfInBounds_toArray, List.set_cons_zero, List.set_cons_succ, i64_w, i32_w]; rfl
        refine pure_ (i := 15) (N := (some 47)) (v := ?_) (a' := ?_) #[true, true, true, true, true, true, true, true, true, true, true, true, true, true, true, true, false, true, true, false, true, true, true, false, true, true, false, false, false, true, true, false, false, false, false] rfl rfl (by kernel_rfl) (fun _ _ _ h => h) (Or.inl ⟨by rfl, ?_⟩) ?_ ?_
        rotate_left
        · intro w'
          go_simp
          with_reducible rfl
        rotate_left
        · simp only [Act.put, List.setIfInBounds_toArray, List.set_cons_zero, List.set_cons_succ, i64_w, i32_w]; rfl
        refine take_ (i := 16) (N := (some 48)) (v := ?_) (a' := ?_) #[true, true, true, true, true, true, true, true, true, true, true, true, true, true, true, true, true, true, true, false, true, true, true, false, true, true, false, false, false, true, true, false, false, false, false] rfl rfl (by kernel_rfl) (fun _ _ _ h => h) (Or.inl ⟨by rfl, ?_⟩) hHeld ?_ ?_
        rotate_left
        · intro w' hSw
          (try dsimp only at hSw)
          go_simp
          with_reducible rfl
        rotate_left
        · simp only [Act.put, List.setIfInBounds_toArray, List.set_cons_zero, List.set_cons_succ, i64_w, i32_w]; rfl
        refine take_ (i := 23) (N := (some 55)) (v := ?_) (a' := ?_) #[true, true, true, true, true, true, true, true, true, true, true, true, true, true, true, true, true, true, true, false, true, true, true, true, true, true, false, false, false, true, true, false, false, false, false] rfl rfl (by kernel_rfl) (fun _ _ _ h => h) (Or.inl ⟨by rfl, ?_⟩) hHeld ?_ ?_
        rotate_left
        · intro w' hSw
          (try dsimp only at hSw)
          go_simp
          with_reducible rfl
        rotate_left
        · simp only [Act.put, List.setIfInBounds_toArray, List.set_cons_zero, List.set_cons_succ, i64_w, i32_w]; rfl
        refine take_ (i := 26) (N := (some 58)) (v := ?_) (a' := ?_) #[true, true, true, true, true, true, true, true, true, true, true, true, true, true, true, true, true, true, true, false, true, true, true, true, true, true, true, false, false, true, true, false, false, false, false] rfl rfl (by kernel_rfl) (fun _ _ _ h => h) (Or.inl ⟨by rfl, ?_⟩) hHeld ?_ ?_
        rotate_left
        · intro w' hSw
          (try dsimp only at hSw)
          go_simp
          with_reducible rfl
        rotate_left
        · simp only [Act.put, List.setIfInBounds_toArray, List.set_cons_zero, List.set_cons_succ, i64_w, i32_w]; rfl
        refine pure_ (i := 27) (N := (some 59)) (v := ?_) (a' := ?_) #[true, true, true, true, true, true, true, true, true, true, true, true, true, true, true, true, true, true, true, false, true, true, true, true, true, true, true, true, false, true, true, false, false, false, false] rfl rfl (by kernel_rfl) (fun _ _ _ h => h) (Or.inl ⟨by rfl, ?_⟩) ?_ ?_
        rotate_left
        · intro w'
          go_simp
          with_reducible rfl
        rotate_left
        · simp only [Act.put, List.setIfInBounds_toArray, List.set_cons_zero, List.set_cons_succ, i64_w, i32_w]; rfl
        refine take_ (i := 28) (N := (some 60)) (v := ?_) (a' := ?_) #[true, true, true, true, true, true, true, true, true, true, true, true, true, true, true, true, true, true, true, false, true, true, true, true, true, true, true, true, true, true, true, false, false, false, false] rfl rfl (by kernel_rfl) (fun _ _ _ h => h) (Or.inl ⟨by rfl, ?_⟩) hHeld ?_ ?_
        rotate_left
        · intro w' hSw
          (try dsimp only at hSw)
          go_simp
          with_reducible rfl
        rotate_left
        · simp only [Act.put, List.setIfInBounds_toArray, List.set_cons_zero, List.set_cons_succ, i64_w, i32_w]; rfl
        refine one_ (i := 19) (N := (some 51)) #[true, true, true, true, true, true, true, true, true, true, true, true, true, true, true, true, true, true, true, true, true, true, true, true, true, true, true, true, true, true, true, false, false, false, false] rfl rfl (by kernel_rfl) (by decide) (fun K hK => ?_)
        refine goes_ Try.func108 (by kernel_rfl) rfl #[.slice C0 3 cc0, .int .i64 (a : Int), .int .i64 (b : Int)] (by rfl) rfl rfl (by (try simp only [List.map_toArray, List.map_cons, List.map_nil]); first | done | rfl) ?_
        refine (HG0.out _ D6.out).mono ?_
        rintro E w7 ⟨rfl, hd⟩
        have D7 := Lib.hid (below_then D6.out hd.below D6.out.size)
        clear hd
        refine ⟨_, rfl, ?_⟩
        refine hK.out _ _ (HS.out _ D7.out) (fun hHeld => ?_)
        clear hK K
        refine norm_ (a' := ?_) ?_ ?_
        rotate_left
        · show Act.put _ (some 51) _ = _
          simp only [Act.put, List.setIfInBounds_toArray, List.set_cons_zero, List.set_cons_succ, i64_w, i32_w]
          rfl
        refine one_ (i := 31) (N := (some 63)) #[true, true, true, true, true, true, true, true, true, true, true, true, true, true, true, true, true, true, true, true, true, true, true, true, true, true, true, true, true, true, true, true, false, false, false] rfl rfl (by kernel_rfl) (by decide) (fun K hK => ?_)
        refine goes_ Try.func108 (by kernel_rfl) rfl #[.slice C1 3 cc1, .int .i64 (a : Int), .int .i64 (b : Int)] (by rfl) rfl rfl (by (try simp only [List.map_toArray, List.map_cons, List.map_nil]); first | done | rfl) ?_
        refine (HG1.out _ D7.out).mono ?_
        rintro E w8 ⟨rfl, hd⟩
        have D8 := Lib.hid (below_then D7.out hd.below D7.out.size)
        clear hd
        refine ⟨_, rfl, ?_⟩
        refine hK.out _ _ (HS.out _ D8.out) (fun hHeld => ?_)
        clear hK K
        refine norm_ (a' := ?_) ?_ ?_
        rotate_left
        · show Act.put _ (some 63) _ = _
          simp only [Act.put, List.setIfInBounds_toArray, List.set_cons_zero, List.set_cons_succ, i64_w, i32_w]
          rfl
        refine pure_ (i := 32) (N := (some 64)) (v := ?_) (a' := ?_) #[true, true, true, true, true, true, true, true, true, true, true, true, true, true, true, true, true, true, true, true, true, true, true, true, true, true, true, true, true, true, true, true, true, false, false] rfl rfl (by kernel_rfl) (fun _ _ _ h => h) (Or.inl ⟨by rfl, ?_⟩) ?_ ?_
        rotate_left
        · intro w'
          go_simp
          with_reducible rfl
        rotate_left
        · simp only [Act.put, List.setIfInBounds_toArray, List.set_cons_zero, List.set_cons_succ, i64_w, i32_w]; rfl
        refine pure_ (i := 33) (N := (some 65)) (v := ?_) (a' := ?_) #[true, true, true, true, true, true, true, true, true, true, true, true, true, true, true, true, true, true, true, true, true, true, true, true, true, true, true, true, true, true, true, true, true, true, false] rfl rfl (by kernel_rfl) (fun _ _ _ h => h) (Or.inl ⟨by rfl, ?_⟩) ?_ ?_
        rotate_left
        · intro w'
          go_simp
          with_reducible rfl
        rotate_left
        · simp only [Act.put, List.setIfInBounds_toArray, List.set_cons_zero, List.set_cons_succ, i64_w, i32_w]; rfl
        refine pure_ (i := 34) (N := (some 66)) (v := ?_) (a' := ?_) #[true, true, true, true, true, true, true, true, true, true, true, true, true, true, true, true, true, true, true, true, true, true, true, true, true, true, true, true, true, true, true, true, true, true, true] rfl rfl (by kernel_rfl) (fun _ _ _ h => h) (Or.inl ⟨by rfl, ?_⟩) ?_ ?_
        rotate_left
        · intro w'
          go_simp
          with_reducible rfl
        rotate_left
        · simp only [Act.put, List.setIfInBounds_toArray, List.set_cons_zero, List.set_cons_succ, i64_w, i32_w]; rfl
        refine done_ (by kernel_rfl) ?_
        have E1 := Lib.hid (Kd.S_below S5.out D8.out)
        have E2 := Lib.hid (IsS27.below I5.out D8.out)
        have E3 := Lib.hid (below_then B5.out D8.out B5.out.size)
        clear hHeld S5 I5 B5
        cases q0 <;> cases q1
        · have hf := HAL.out (by rw [HK2.out]; rfl)
          go_wp2_with fail
          go_ret
          refine ⟨?_, E3.out⟩
          rw [hf]
          rfl
        · rw [HK2.out] at HNX
          go_wp2_with fail
          go_roundw
          case rel => exact ⟨i + 1, by omega, by simp, E1, E2, E3, Lib.hid HNX.out⟩
          case measure => simp [intOf]; omega
        · rw [HK2.out] at HNX
          go_wp2_with fail
          go_roundw
          case rel => exact ⟨i + 1, by omega, by simp, E1, E2, E3, Lib.hid HNX.out⟩
          case measure => simp [intOf]; omega
        · have hf := HAL.out (by rw [HK2.out]; rfl)
          go_wp2_with fail
          go_ret
          refine ⟨?_, E3.out⟩
          rw [hf]
          rfl
      · have hk : okE T (a, b) = false := by unfold okE; simp only; rw [← HWB.out]; rfl
        have HF := Lib.hid (HAL.out hk)
        have c1 : ((2 : Nat) : Int) < (((y0 :: y1 :: y2 :: r : List Int).length : Nat) : Int) := by simp only [List.length_cons]; omega
        clear HWB HWR R5
        generalize (y0 :: y1 :: y2 :: r : List Int).length = ln at *
        replace c1 : (2 : Int) < (ln : Int) := c1
        have E3 := Lib.hid (Below.drew B5.out)
        clear hk hg5 hT0 hbw S5 I5 B5 K5
        refine start_ (n := 35) (S := fun w' => True) (ds := []) #[false, false, false, false, false, false, false, false, false, false, false, false, false, false, false, false, false, false, false, false, false, false, false, false, false, false, false, false, false, false, false, false, false, false, false] (by kernel_rfl) rfl rfl trivial (fun hHeld => ?_)
        generalize w5.drew = w6 at *
        refine pure_ (i := 0) (N := (some 32)) (v := ?_) (a' := ?_) #[true, false, false, false, false, false, false, false, false, false, false, false, false, false, false, false, false, false, false, false, false, false, false, false, false, false, false, false, false, false, false, false, false, false, false] rfl rfl (by kernel_rfl) (fun _ _ _ h => h) (Or.inl ⟨by rfl, ?_⟩) ?_ ?_
        rotate_left
        · intro w'
          go_simp
          with_reducible rfl
        rotate_left
        · simp only [Act.put, List.setIfInBounds_toArray, List.set_cons_zero, List.set_cons_succ, i64_w, i32_w]; rfl
        refine pure_ (i := 1) (N := (some 33)) (v := ?_) (a' := ?_) #[true, true, false, false, false, false, false, false, false, false, false, false, false, false, false, false, false, false, false, false, false, false, false, false, false, false, false, false, false, false, false, false, false, false, false] rfl rfl (by kernel_rfl) (fun _ _ _ h => h) (Or.inl ⟨by rfl, ?_⟩) ?_ ?_
        rotate_left
        · intro w'
          go_simp
          with_reducible rfl
        rotate_left
        · simp only [Act.put, List.setIfInBounds_toArray, List.set_cons_zero, List.set_cons_succ, i64_w, i32_w]; rfl
        refine pure_ (i := 2) (N := (some 34)) (v := ?_) (a' := ?_) #[true, true, true, false, false, false, false, false, false, false, false, false, false, false, false, false, false, false, false, false, false, false, false, false, false, false, false, false, false, false, false, false, false, false, false] rfl rfl (by kernel_rfl) (fun _ _ _ h => h) (Or.inl ⟨by rfl, ?_⟩) ?_ ?_
        rotate_left
        · intro w'
          go_simp
          with_reducible rfl
        rotate_left
        · simp only [Act.put, List.setIfInBounds_toArray, List.set_cons_zero, List.set_cons_succ, i64_w, i32_w]; rfl
        refine pure_ (i := 3) (N := (some 35)) (v := ?_) (a' := ?_) #[true, true, true, true, false, false, false, false, false, false, false, false, false, false, false, false, false, false, false, false, false, false, false, false, false, false, false, false, false, false, false, false, false, false, false] rfl rfl (by kernel_rfl) (fun _ _ _ h => h) (Or.inl ⟨by rfl, ?_⟩) ?_ ?_
        rotate_left
        · intro w'
          go_simp
          with_reducible rfl
        rotate_left
        · simp only [Act.put, List.setIfInBounds_toArray, List.set_cons_zero, List.set_cons_succ, i64_w, i32_w]; rfl
        refine pure_ (i := 4) (N := (some 36)) (v := undef) (a' := ?_) #[true, true, true, true, true, false, false, false, false, false, false, false, false, false, false, false, false, false, false, false, false, false, false, false, false, false, false, false, false, false, false, false, false, false, false] rfl rfl (by kernel_rfl) (fun _ _ _ h => h) (Or.inr ⟨by rfl, rfl⟩) ?_ ?_
        rotate_left
        · simp only [Act.put, List.setIfInBounds_toArray, List.set_cons_zero, List.set_cons_succ, i64_w, i32_w]; rfl
        refine pure_ (i := 5) (N := (some 37)) (v := undef) (a' := ?_) #[true, true, true, true, true, true, false, false, false, false, false, false, false, false, false, false, false, false, false, false, false, false, false, false, false, false, false, false, false, false, false, false, false, false, false] rfl rfl (by kernel_rfl) (fun _ _ _ h => h) (Or.inr ⟨by rfl, rfl⟩) ?_ ?_
        rotate_left
        · simp only [Act.put, List.setIfInBounds_toArray, List.set_cons_zero, List.set_cons_succ, i64_w, i32_w]; rfl
        refine pure_ (i := 6) (N := (some 38)) (v := undef) (a' := ?_) #[true, true, true, true, true, true, true, false, false, false, false, false, false, false, false, false, false, false, false, false, false, false, false, false, false, false, false, false, false, false, false, false, false, false, false] rfl rfl (by kernel_rfl) (fun _ _ _ h => h) (Or.inr ⟨by rfl, rfl⟩) ?_ ?_
        rotate_left
        · simp only [Act.put, List.setIfInBounds_toArray, List.set_cons_zero, List.set_cons_succ, i64_w, i32_w]; rfl
        refine pure_ (i := 7) (N := (some 39)) (v := undef) (a' := ?_) #[true, true, true, true, true, true, true, true, false, false, false, false, false, false, false, false, false, false, false, false, false, false, false, false, false, false, false, false, false, false, false, false, false, false, false] rfl rfl (by kernel_rfl) (fun _ _ _ h => h) (Or.inr ⟨by rfl, rfl⟩) ?_ ?_
        rotate_left
        · simp only [Act.put, List.setIfInBounds_toArray, List.set_cons_zero, List.set_cons_succ, i64_w, i32_w]; rfl
        refine pure_ (i := 8) (N := (some 40)) (v := undef) (a' := ?_) #[true, true, true, true, true, true, true, true, true, false, false, false, false, false, false, false, false, false, false, false, false, false, false, false, false, false, false, false, false, false, false, false, false, false, false] rfl rfl (by kernel_rfl) (fun _ _ _ h => h) (Or.inr ⟨by rfl, rfl⟩) ?_ ?_
        rotate_left
        · simp only [Act.put, List.setIfInBounds_toArray, List.set_cons_zero, List.set_cons_succ, i64_w, i32_w]; rfl
        refine pure_ (i := 9) (N := (some 41)) (v := undef) (a' := ?_) #[true, true, true, true, true, true, true, true, true, true, false, false, false, false, false, false, false, false, false, false, false, false, false, false, false, false, false, false, false, false, false, false, false, false, false] rfl rfl (by kernel_rfl) (fun _ _ _ h => h) (Or.inr ⟨by rfl, rfl⟩) ?_ ?_
        rotate_left
        · simp only [Act.put, List.setIfInBounds_toArray, List.set_cons_zero, List.set_cons_succ, i64_w, i32_w]; rfl
        refine pure_ (i := 10) (N := (some 42)) (v := undef) (a' := ?_) #[true, true, true, true, true, true, true, true, true, true, true, false, false, false, false, false, false, false, false, false, false, false, false, false, false, false, false, false, false, false, false, false, false, false, false] rfl rfl (by kernel_rfl) (fun _ _ _ h => h) (Or.inr ⟨by rfl, rfl⟩) ?_ ?_
        rotate_left
        · simp only [Act.put, List.setIfInBounds_toArray, List.set_cons_zero, List.set_cons_succ, i64_w, i32_w]; rfl
        refine pure_ (i := 11) (N := (some 43)) (v := undef) (a' := ?_) #[true, true, true, true, true, true, true, true, true, true, true, true, false, false, false, false, false, false, false, false, false, false, false, false, false, false, false, false, false, false, false, false, false, false, false] rfl rfl (by kernel_rfl) (fun _ _ _ h => h) (Or.inr ⟨by rfl, rfl⟩) ?_ ?_
        rotate_left
        · simp only [Act.put, List.setIfInBounds_toArray, List.set_cons_zero, List.set_cons_succ, i64_w, i32_w]; rfl
        refine pure_ (i := 12) (N := (some 44)) (v := undef) (a' := ?_) #[true, true, true, true, true, true, true, true, true, true, true, true, true, false, false, false, false, false, false, false, false, false, false, false, false, false, false, false, false, false, false, false, false, false, false] rfl rfl (by kernel_rfl) (fun _ _ _ h => h) (Or.inr ⟨by rfl, rfl⟩) ?_ ?_
        rotate_left
        · simp only [Act.put, List.setIfInBounds_toArray, List.set_cons_zero, List.set_cons_succ, i64_w, i32_w]; rfl
        refine pure_ (i := 13) (N := (some 45)) (v := undef) (a' := ?_) #[true, true, true, true, true, true, true, true, true, true, true, true, true, true, false, false, false, false, false, false, false, false, false, false, false, false, false, false, false, false, false, false, false, false, false] rfl rfl (by kernel_rfl) (fun _ _ _ h => h) (Or.inr ⟨by rfl, rfl⟩) ?_ ?_
        rotate_left
        · simp only [Act.put, List.setIfInBounds_toArray, List.set_cons_zero, List.set_cons_succ, i64_w, i32_w]; rfl
        refine pure_ (i := 14) (N := (some 46)) (v := undef) (a' := ?_) #[true, true, true, true, true, true, true, true, true, true, true, true, true, true, true, false, false, false, false, false, false, false, false, false, false, false, false, false, false, false, false, false, false, false, false] rfl rfl (by kernel_rfl) (fun _ _ _ h => h) (Or.inr ⟨by rfl, rfl⟩) ?_ ?_
        rotate_left
        · simp only [Act.put, List.setIfInBounds_toArray, List.set_cons_zero, List.set_cons_succ, i64_w, i32_w]; rfl
        refine pure_ (i := 15) (N := (some 47)) (v := undef) (a' := ?_) #[true, true, true, true, true, true, true, true, true, true, true, true, true, true, true, true, false, false, false, false, false, false, false, false, false, false, false, false, false, false, false, false, false, false, false] rfl rfl (by kernel_rfl) (fun _ _ _ h => h) (Or.inr ⟨by rfl, rfl⟩) ?_ ?_
        rotate_left
        · simp only [Act.put, List.setIfInBounds_toArray, List.set_cons_zero, List.set_cons_succ, i64_w, i32_w]; rfl
        refine pure_ (i := 16) (N := (some 48)) (v := undef) (a' := ?_) #[true, true, true, true, true, true, true, true, true, true, true, true, true, true, true, true, true, false, false, false, false, false, false, false, false, false, false, false, false, false, false, false, false, false, false] rfl rfl (by kernel_rfl) (fun _ _ _ h => h) (Or.inr ⟨by rfl, rfl⟩) ?_ ?_
        rotate_left
        · simp only [Act.put, List.setIfInBounds_toArray, List.set_cons_zero, List.set_cons_succ, i64_w, i32_w]; rfl
        refine pure_ (i := 17) (N := (some 49)) (v := undef) (a' := ?_) #[true, true, true, true, true, true, true, true, true, true, true, true, true, true, true, true, true, true, false, false, false, false, false, false, false, false, false, false, false, false, false, false, false, false, false] rfl rfl (by kernel_rfl) (fun _ _ _ h => h) (Or.inr ⟨by rfl, rfl⟩) ?_ ?_
        rotate_left
        · simp only [Act.put, List.setIfInBounds_toArray, List.set_cons_zero, List.set_cons_succ, i64_w, i32_w]; rfl
        refine pure_ (i := 18) (N := (some 50)) (v := undef) (a' := ?_) #[true, true, true, true, true, true, true, true, true, true, true, true, true, true, true, true, true, true, true, false, false, false, false, false, false, false, false, false, false, false, false, false, false, false, false] rfl rfl (by kernel_rfl) (fun _ _ _ h => h) (Or.inr ⟨by rfl, rfl⟩) ?_ ?_
        rotate_left
        · simp only [Act.put, List.setIfInBounds_toArray, List.set_cons_zero, List.set_cons_succ, i64_w, i32_w]; rfl
        refine pure_ (i := 19) (N := (some 51)) (v := undef) (a' := ?_) #[true, true, true, true, true, true, true, true, true, true, true, true, true, true, true, true, true, true, true, true, false, false, false, false, false, false, false, false, false, false, false, false, false, false, false] rfl rfl (by kernel_rfl) (fun _ _ _ h => h) (Or.inr ⟨by rfl, rfl⟩) ?_ ?_
        rotate_left
        · simp only [Act.put, List.setIfInBounds_toArray, List.set_cons_zero, List.set_cons_succ, i64_w, i32_w]; rfl
        refine pure_ (i := 20) (N := (some 52)) (v := undef) (a' := ?_) #[true, true, true, true, true, true, true, true, true, true, true, true, true, true, true, true, true, true, true, true, true, false, false, false, false, false, false, false, false, false, false, false, false, false, false] rfl rfl (by kernel_rfl) (fun _ _ _ h => h) (Or.inr ⟨by rfl, rfl⟩) ?_ ?_
        rotate_left
        · simp only [Act.put, List.setIfInBounds_toArray, List.set_cons_zero, List.set_cons_succ, i64_w, i32_w]; rfl
        refine pure_ (i := 21) (N := (some 53)) (v := undef) (a' := ?_) #[true, true, true, true, true, true, true, true, true, true, true, true, true, true, true, true, true, true, true, true, true, true, false, false, false, false, false, false, false, false, false, false, false, false, false] rfl rfl (by kernel_rfl) (fun _ _ _ h => h) (Or.inr ⟨by rfl, rfl⟩) ?_ ?_
        rotate_left
        · simp only [Act.put, List.setIfInBounds_toArray, List.set_cons_zero, List.set_cons_succ, i64_w, i32_w]; rfl
        refine pure_ (i := 22) (N := (some 54)) (v := undef) (a' := ?_) #[true, true, true, true, true, true, true, true, true, true, true, true, true, true, true, true, true, true, true, true, true, true, true, false, false, false, false, false, false, false, false, false, false, false, false] rfl rfl (by kernel_rfl) (fun _ _ _ h => h) (Or.inr ⟨by rfl, rfl⟩) ?_ ?_
        rotate_left
        · simp only [Act.put, List.setIfInBounds_toArray, List.set_cons_zero, List.set_cons_succ, i64_w, i32_w]; rfl
        refine pure_ (i := 23) (N := (some 55)) (v := undef) (a' := ?_) #[true, true, true, true, true, true, true, true, true, true, true, true, true, true, true, true, true, true, true, true, true, true, true, true, false, false, false, false, false, false, false, false, false, false, false] rfl rfl (by kernel_rfl) (fun _ _ _ h => h) (Or.inr ⟨by rfl, rfl⟩) ?_ ?_
        rotate_left
        · simp only [Act.put, List.setIfInBounds_toArray, List.set_cons_zero, List.set_cons_succ, i64_w, i32_w]; rfl
        refine pure_ (i := 24) (N := (some 56)) (v := undef) (a' := ?_) #[true, true, true, true, true, true, true, true, true, true, true, true, true, true, true, true, true, true, true, true, true, true, true, true, true, false, false, false, false, false, false, false, false, false, false] rfl rfl (by kernel_rfl) (fun _ _ _ h => h) (Or.inr ⟨by rfl, rfl⟩) ?_ ?_
        rotate_left
        · simp only [Act.put, List.setIfInBounds_toArray, List.set_cons_zero, List.set_cons_succ, i64_w, i32_w]; rfl
        refine pure_ (i := 25) (N := (some 57)) (v := undef) (a' := ?_) #[true, true, true, true, true, true, true, true, true, true, true, true, true, true, true, true, true, true, true, true, true, true, true, true, true, true, false, false, false, false, false, false, false, false, false] rfl rfl (by kernel_rfl) (fun _ _ _ h => h) (Or.inr ⟨by rfl, rfl⟩) ?_ ?_
        rotate_left
        · simp only [Act.put, List.setIfInBounds_toArray, List.set_cons_zero, List.set_cons_succ, i64_w, i32_w]; rfl
        refine pure_ (i := 26) (N := (some 58)) (v := undef) (a' := ?_) #[true, true, true, true, true, true, true, true, true, true, true, true, true, true, true, true, true, true, true, true, true, true, true, true, true, true, true, false, false, false, false, false, false, false, false] rfl rfl (by kernel_rfl) (fun _ _ _ h => h) (Or.inr ⟨by rfl, rfl⟩) ?_ ?_
        rotate_left
        · simp only [Act.put, List.setIfInBounds_toArray, List.set_cons_zero, List.set_cons_succ, i64_w, i32_w]; rfl
        refine pure_ (i := 27) (N := (some 59)) (v := undef) (a' := ?_) #[true, true, true, true, true, true, true, true, true, true, true, true, true, true, true, true, true, true, true, true, true, true, true, true, true, true, true, true, false, false, false, false, false, false, false] rfl rfl (by kernel_rfl) (fun _ _ _ h => h) (Or.inr ⟨by rfl, rfl⟩) ?_ ?_
        rotate_left
        · simp only [Act.put, List.setIfInBounds_toArray, List.set_cons_zero, List.set_cons_succ, i64_w, i32_w]; rfl
        refine pure_ (i := 28) (N := (some 60)) (v := undef) (a' := ?_) #[true, true, true, true, true, true, true, true, true, true, true, true, true, true, true, true, true, true, true, true, true, true, true, true, true, true, true, true, true, false, false, false, false, false, false] rfl rfl (by kernel_rfl) (fun _ _ _ h => h) (Or.inr ⟨by rfl, rfl⟩) ?_ ?_
        rotate_left
        · simp only [Act.put, List.setIfInBounds_toArray, List.set_cons_zero, List.set_cons_succ, i64_w, i32_w]; rfl
        refine pure_ (i := 29) (N := (some 61)) (v := undef) (a' := ?_) #[true, true, true, true, true, true, true, true, true, true, true, true, true, true, true, true, true, true, true, true, true, true, true, true, true, true, true, true, true, true, false, false, false, false, false] rfl rfl (by kernel_rfl) (fun _ _ _ h => h) (Or.inr ⟨by rfl, rfl⟩) ?_ ?_
        rotate_left
        · simp only [Act.put, List.setIfInBounds_toArray, List.set_cons_zero, List.set_cons_succ, i64_w, i32_w]; rfl
        refine pure_ (i := 30) (N := (some 62)) (v := undef) (a' := ?_) #[true, true, true, true, true, true, true, true, true, true, true, true, true, true, true, true, true, true, true, true, true, true, true, true, true, true, true, true, true, true, true, false, false, false, false] rfl rfl (by kernel_rfl) (fun _ _ _ h => h) (Or.inr ⟨by rfl, rfl⟩) ?_ ?_
        rotate_left
        · simp only [Act.put, List.setIfInBounds_toArray, List.set_cons_zero, List.set_cons_succ, i64_w, i32_w]; rfl
        refine pure_ (i := 31) (N := (some 63)) (v := undef) (a' := ?_) #[true, true, true, true, true, true, true, true, true, true, true, true, true, true, true, true, true, true, true, true, true, true, true, true, true, true, true, true, true, true, true, true, false, false, false] rfl rfl (by kernel_rfl) (fun _ _ _ h => h) (Or.inr ⟨by rfl, rfl⟩) ?_ ?_
        rotate_left
        · simp only [Act.put, List.setIfInBounds_toArray, List.set_cons_zero, List.set_cons_succ, i64_w, i32_w]; rfl
        refine pure_ (i := 32) (N := (some 64)) (v := undef) (a' := ?_) #[true, true, true, true, true, true, true, true, true, true, true, true, true, true, true, true, true, true, true, true, true, true, true, true, true, true, true, true, true, true, true, true, true, false, false] rfl rfl (by kernel_rfl) (fun _ _ _ h => h) (Or.inr ⟨by rfl, rfl⟩) ?_ ?_
        rotate_left
        · simp only [Act.put, List.setIfInBounds_toArray, List.set_cons_zero, List.set_cons_succ, i64_w, i32_w]; rfl
        refine pure_ (i := 33) (N := (some 65)) (v := undef) (a' := ?_) #[true, true, true, true, true, true, true, true, true, true, true, true, true, true, true, true, true, true, true, true, true, true, true, true, true, true, true, true, true, true, true, true, true, true, false] rfl rfl (by kernel_rfl) (fun _ _ _ h => h) (Or.inr ⟨by rfl, rfl⟩) ?_ ?_
        rotate_left
        · simp only [Act.put, List.setIfInBounds_toArray, List.set_cons_zero, List.set_cons_succ, i64_w, i32_w]; rfl
        refine pure_ (i := 34) (N := (some 66)) (v := ?_) (a' := ?_) #[true, true, true, true, true, true, true, true, true, true, true, true, true, true, true, true, true, true, true, true, true, true, true, true, true, true, true, true, true, true, true, true, true, true, true] rfl rfl (by kernel_rfl) (fun _ _ _ h => h) (Or.inl ⟨by rfl, ?_⟩) ?_ ?_
        rotate_left
        · intro w'
          go_simp
          with_reducible rfl
        rotate_left
        · simp only [Act.put, List.setIfInBounds_toArray, List.set_cons_zero, List.set_cons_succ, i64_w, i32_w]; rfl
        refine done_ (by kernel_rfl) ?_
        go_wp2_with fail
        go_ret
        refine ⟨?_, E3.out⟩
        rw [HF.out]
        rfl
    · obtain rfl : i = en := by omega
      have hh := HO.out
      rw [HEP.out, List.take_length] at hh
      go_wp2_with fail
      go_ret
      refine ⟨?_, HB.out⟩
      rw [hh]
      rfl

set_option maxHeartbeats 1000000 in
theorem spec_IsSheet (A : Option Addr) (c : Nat) (Q : List S42) (B : Option Addr) (e : Nat) (T : List (List Int)) (w : World) (hQ : Kd.C k42 w A Q.length Q) (hT : Kd.C (Kd.slice 2 (Kd.int .i64)) w B T.length T) :
    Calls Try.prog 33 #[.agg #[.slice A Q.length c, .slice B T.length e]] w fun E w' => E = .returned (.bool (sheetB Q.length T)) ∧ Below w.heap.size w w' := by
  have HI := Lib.hid (IsS27.new w w A c B e Q T (Below.refl _ _) hQ hT)
  have HB0 := Lib.hid (Below.alloc (Below.refl w.heap.size w) (Nat.le_refl _) (.cells #[.slice A Q.length c, .slice B T.length e] 27))
  clear hQ hT
  have HIS := Lib.hid (fun (W : World) (hI : VarN w W w.heap.size Q T) (hB : Below w.heap.size w W) => spec_l02Is.calls 201 w.heap.size Q T _ w W hI hB (is_f Q T 201 (by omega)))
  by_cases hv : validB Q.length T = true
  · have hr : sheetB Q.length T = (edgesP Q.length T).all (okE T) := by unfold sheetB; rw [hv, Bool.true_and, sheet_iff Q.length T (validB_iff.1 hv).2.2]
    have HS := Lib.hid (spec_l02Sheet Q T hv w.heap.size w)
    rw [hv] at HIS
    rw [hr]
    generalize (edgesP Q.length T).all (okE T) = r at *
    clear hr hv
    go_enter Try.func33, Try.ntmps33
    go_wp2_with (first
      | (go_at_call 69; refine (HIS.out _ HI.out HB0.out).mono ?_; rintro E w1 ⟨rfl, h1, h2, _⟩; have I1 := Lib.hid h1; have B1 := Lib.hid h2; clear h1 h2)
      | (go_at_call 79; refine (HS.out _ I1.out B1.out).mono ?_; rintro E w2 ⟨rfl, h2⟩; have B2 := Lib.hid h2; clear h2)
      | fail)
    go_ret
    exact ⟨rfl, B2.out⟩
  · have hr : sheetB Q.length T = false := by unfold sheetB; rw [Bool.eq_false_iff.2 hv, Bool.false_and]
    rw [Bool.eq_false_iff.2 hv] at HIS
    rw [hr]
    clear hr hv
    go_enter Try.func33, Try.ntmps33
    go_wp2_with (first
      | (go_at_call 69; refine (HIS.out _ HI.out HB0.out).mono ?_; rintro E w1 ⟨rfl, h1, h2, _⟩; have B1 := Lib.hid h2; clear h1 h2)
      | fail)
    go_ret
    exact ⟨rfl, B1.out⟩

end Go.Proofs.Ytepilofcionekaa
namespace Go.Proofs.Ytepilofcionekaa
open Go.RowKit Go.Proofs.YtepilofcionekaaW.PrintWords Go.Proofs.Ytepilofcionekaa.PMesh Msh
set_option linter.unusedVariables false

set_option maxHeartbeats 4000000 in
set_option maxRecDepth 100000 in
theorem fnExactIsSheet_walk (w : World) (A : Option Addr) (c : Nat) (L : List S122) (B : Option Addr) (e : Nat) (T : List (List Int)) (hL : Kd.C k122 w A L.length L) (hc : L.length ≤ c) (hT : Kd.C (Kd.slice 2 (Kd.int .i64)) w B T.length T) (he : T.length ≤ e) (ok : MeshOk L T)  :
    Calls Try.prog 7 #[.agg #[.slice A L.length c, .slice B T.length e]] w fun e w' => e = .returned (.bool true) ∧ Below w.heap.size w w' := by
  have came : CameM w A c L B e T := ⟨hL, hc, hT, he⟩
  obtain ⟨r, hsm, hr1, hsz⟩ := sz_step w w A c L B e T came ok 1048576 (by omega) (by omega)
  obtain ⟨P, hP⟩ : ∃ P, P = L.map toV := ⟨_, rfl⟩
  have HSZ := Lib.hid hsz
  have K0 := Lib.hid (below_alloc (Below.refl w.heap.size w) (.cells #[.slice A L.length c, .slice B T.length e] 50))
  clear hsz hL hc hT he 
  by_cases hneg : r < 0
  · clear came hsm
    go_enter Try.func7, Try.ntmps7
    go_wp2_with (first | (go_at_call 24; refine (HSZ.out _ K0.out).mono ?_; rintro E w1 ⟨rfl, hb⟩; have K1 := Lib.hid (below_then K0.out hb K0.out.size); clear hb) | fail)
    go_ret
    exact ⟨rfl, K1.out⟩
  · have hs := hsm (by omega)
    have hPl : P.length = L.length := by rw [hP, List.length_map]
    have hb1 : P.length ≤ 1048576 := by rw [hPl]; exact hs.1
    have hsim : simP P P := simP_self (by rw [hP]; exact map_ok ok.fl)
    have hto := to_step w A c L B e T came hs P hP
    obtain ⟨ans, hans⟩ : ∃ ans, ans = sheetB P.length T := ⟨_, rfl⟩
    have h1 : ∀ (A : Option Addr) (c : Nat) (B : Option Addr) (e : Nat) (W : World), Kd.C k42 W A P.length P → P.length ≤ c → Kd.C (Kd.slice 2 (Kd.int .i64)) W B T.length T → T.length ≤ e → Calls Try.prog 33 #[.agg #[.slice A P.length c, .slice B T.length e]] W (fun E w' => E = .returned (.bool ans) ∧ Below W.heap.size W w') := fun A c B e W p p' q q' => by rw [hans]; exact spec_IsSheet A c P B e T W p q
    have h2 : ∀ (A : Option Addr) (c : Nat) (B : Option Addr) (e : Nat) (W : World), Kd.C k42 W A P.length P → P.length ≤ c → Kd.C (Kd.slice 2 (Kd.int .i64)) W B T.length T → T.length ≤ e → Calls Try.prog 34 #[.agg #[.slice A P.length c, .slice B T.length e]] W (fun E w' => E = .returned (.bool ans) ∧ Below W.heap.size W w') := fun A c B e W p p' q q' => by rw [hans]; exact impl_IsSheet A c P B e T W p p' q q'
    have H1 := Lib.hid h1
    have H2 := Lib.hid h2
    have HTO := Lib.hid hto
    have HT1 : Hid (T.length ≤ 1048576) := Lib.hid hs.2.1
    have HT2 : Hid (∀ t ∈ T, t.length ≤ 1048576) := Lib.hid hs.2.2
    have HSI := Lib.hid hsim
    have BA0 := Lib.hid (BoxAt.new w 50 (.slice A L.length c) (.slice B T.length e))
    have z0 := BA0.out.lt
    clear h1 h2 hto hs hsim hsm hans hP came hPl ok
    go_enter Try.func7, Try.ntmps7
    go_wp2_with (first
      | (go_at_call 24; refine (HSZ.out _ K0.out).mono ?_; rintro E w1 ⟨rfl, hb⟩; have z1 := hb.size; have BA1 := Lib.hid (BA0.out.below hb); have bac1 := BA1.out.c0; have bad1 := BA1.out.c1; (try clear bac0 bad0); have K1 := Lib.hid (below_then K0.out hb K0.out.size); clear hb)
      | (go_at_call 26; first
          | (refine (HTO.out _ K3.out).mono ?_; rintro E w4 ⟨A4, c4, B4, e4, rfl, hx, hb, hk⟩; have z4 := hb.size; have BA4 := Lib.hid (BA3.out.below hb); have bac4 := BA4.out.c0; have bad4 := BA4.out.c1; (try clear bac3 bad3); have X4 := Lib.hid hx; have K4 := Lib.hid hk; obtain ⟨w5, hw5⟩ : ∃ w5, w5 = w4.alloc (.cells #[.slice A4 P.length c4, .slice B4 T.length e4] 27) := ⟨_, rfl⟩; have hv5 := below_alloc (Below.refl w4.heap.size w4) (.cells #[.slice A4 P.length c4, .slice B4 T.length e4] 27); rw [← hw5] at hv5; have z5 := hv5.size; have X5 := Lib.hid (X4.out.below hv5); have BA5 := Lib.hid (BA4.out.below hv5); have bac5 := BA5.out.c0; have bad5 := BA5.out.c1; (try clear bac4 bad4); have BX5 := Lib.hid (BoxAt.new w4 27 (.slice A4 P.length c4) (.slice B4 T.length e4)); rw [← hw5] at BX5; have y5 := BX5.out.lt; have K5 := Lib.hid (below_then K4.out hv5 K4.out.size); have WW5 := Lib.hid hw5; clear hv5 hw5; clear hx hb hk)
          | (refine (HTO.out _ K1.out).mono ?_; rintro E w2 ⟨A2, c2, B2, e2, rfl, hx, hb, hk⟩; have z2 := hb.size; have BA2 := Lib.hid (BA1.out.below hb); have bac2 := BA2.out.c0; have bad2 := BA2.out.c1; (try clear bac1 bad1); have D2 := Lib.hid hx; have K2 := Lib.hid hk; clear hx hb hk))
      | (go_at_call 33; refine (H1.out _ _ _ _ _ D2.out.C.1 D2.out.C.2.1 D2.out.C.2.2.1 D2.out.C.2.2.2).mono ?_; rintro E w3 ⟨rfl, hb⟩; have z3 := hb.size; have D3 := Lib.hid (D2.out.below hb); have BA3 := Lib.hid (BA2.out.below hb); have bac3 := BA3.out.c0; have bad3 := BA3.out.c1; (try clear bac2 bad2); have K3 := Lib.hid (below_then K2.out hb K2.out.size); clear hb)
      | (go_at_call 34; rw [← WW5.out]; refine (H2.out _ _ _ _ _ X5.out.C.1 X5.out.C.2.1 X5.out.C.2.2.1 X5.out.C.2.2.2).mono ?_; rintro E w6 ⟨rfl, hb⟩; have z6 := hb.size; have X6 := Lib.hid (X5.out.below hb); have BA6 := Lib.hid (BA5.out.below hb); have bac6 := BA6.out.c0; have bad6 := BA6.out.c1; (try clear bac5 bad5); have BX6 := Lib.hid (BX5.out.below hb); have bxc6 := BX6.out.c0; have bxd6 := BX6.out.c1; (try clear bxc5 bxd5); have K6 := Lib.hid (below_then K5.out hb K5.out.size); clear hb)
      | fail)
    obtain ⟨R, hR⟩ : ∃ R : World → Prop, R = fun W => OwnM W w3.heap.size w4.heap.size (.slice A4 P.length c4) (.slice B4 T.length e4) P T ∧ Below w.heap.size w W ∧ w6.heap.size ≤ W.heap.size := ⟨_, rfl⟩
    have hRb : ∀ W W', R W → Below W.heap.size W W' → R W' := by rw [hR]; rintro W W' ⟨x1, x4, x5⟩ hb; exact ⟨x1.below hb, below_then x4 hb x4.size, Nat.le_trans x5 hb.size⟩
    have hR0 : R w6 := by rw [hR]; exact ⟨X6.out, K6.out, Nat.le_refl _⟩
    have hRK : ∀ W, R W → Below w.heap.size w W := by rw [hR]; rintro W ⟨_, x4, _⟩; exact x4
    have hRX : ∀ W, R W → OwnM W w3.heap.size w4.heap.size (.slice A4 P.length c4) (.slice B4 T.length e4) P T := by rw [hR]; rintro W ⟨x1, _⟩; exact x1
    have HRD := Lib.hid hR
    have HRB := Lib.hid hRb
    have HRK := Lib.hid hRK
    have HRX := Lib.hid hRX
    have hS0 : w6.cell? ⟨w.heap.size, 0, none⟩ = some (.slice A L.length c) ∧ w6.cell? ⟨w.heap.size, 1, none⟩ = some (.slice B T.length e) ∧ w6.cell? ⟨w4.heap.size, 0, none⟩ = some (.slice A4 P.length c4) ∧ w6.cell? ⟨w4.heap.size, 1, none⟩ = some (.slice B4 T.length e4) ∧ BoxAt w6 w.heap.size 50 (.slice A L.length c) (.slice B T.length e) ∧ BoxAt w6 w4.heap.size 27 (.slice A4 P.length c4) (.slice B4 T.length e4) ∧ R w6 := ⟨BA6.out.c0, BA6.out.c1, BX6.out.c0, BX6.out.c1, BA6.out, BX6.out, hR0⟩
    clear hR hRb hRK hRX hR0 bac6 bad6 bxc6 bxd6
    go_region_held3 (fun w' => w'.cell? ⟨w.heap.size, 0, none⟩ = some (.slice A L.length c) ∧ w'.cell? ⟨w.heap.size, 1, none⟩ = some (.slice B T.length e) ∧ w'.cell? ⟨w4.heap.size, 0, none⟩ = some (.slice A4 P.length c4) ∧ w'.cell? ⟨w4.heap.size, 1, none⟩ = some (.slice B4 T.length e4) ∧ BoxAt w' w.heap.size 50 (.slice A L.length c) (.slice B T.length e) ∧ BoxAt w' w4.heap.size 27 (.slice A4 P.length c4) (.slice B4 T.length e4) ∧ R w') (first | with_reducible assumption | with_reducible exact keep4 HRB.out (by with_reducible assumption) (by with_reducible assumption) | with_reducible exact keep4d HRB.out (by with_reducible assumption))
      (first | (go_at_call 26; (with_reducible refine (HTO.out _ (HRK.out _ (rest4 (by with_reducible assumption)))).mono ?_); rintro E w7 ⟨A7, c7, B7, e7, rfl, hx, hb, hk⟩; have D7 := Lib.hid hx; clear hx hk) | (go_at_call 21; (with_reducible refine (eq_step P P T HSI.out hb1 HT1.out HT2.out _ _ _ _ _ 0 0 _ _ 0 0 _ _ _ _ _ _ (HRX.out _ (rest4 (by with_reducible assumption))) D7.out).mono ?_); rintro E w8 ⟨rfl, hb⟩))
    all_goals
      rename_i hH
      obtain ⟨_, _, _, _, _, _, hr⟩ := hH
      have K8 := Lib.hid (HRK.out _ hr)
      clear hr HRD HRB HRK HRX hS0
      go_wp2_with fail
      go_ret
      exact ⟨rfl, K8.out⟩

end Go.Proofs.Ytepilofcionekaa
namespace Go.Proofs.Ytepilofcionekaa
open Go.ChangeShapes Go.WideShapes Go.ChangeAt Go.RowKit Go.Deep
open Go.ChangeMaps (open_string shut_string)

/-- A row of cells that can be read from A on; nil has none. -/
def RowIn (w : World) (A : Option Addr) (cs : List Value) : Prop :=
  (A = none ∧ cs = []) ∨ ∃ b off, A = some ⟨b, off, none⟩ ∧ b < w.heap.size ∧ ∀ i v, cs[i]? = some v → w.cell? ⟨b, off + i, none⟩ = some v

section
variable {H : Type} {enc : TypeId × Value → H} {P : Program} {w : World} {base : Nat} {spare : Nat → Bool} {held : Bool}

theorem flt_lt {k : FloatKind} {b : Nat} (h : (Lit.float k b).wf = true) : b < 2 ^ k.format.width := by
  cases k
  · show b < 4294967296; simpa [Lit.wf] using h
  · show b < 18446744073709551616; simpa [Lit.wf] using h

theorem op_float {r : Reach} {b0 : Nat} {t : TypeId} {k : FloatKind} {v : Value} {d : DataW H} {ps : List MemPlace} (ht : P.underlying t = some (.float k)) (hval : Value.okWide P w r b0 t v) (hd : DataW.Trod enc P w base spare held t v d ps) :
    ∃ b, b < 2 ^ k.format.width ∧ v = .float k b := by
  obtain ⟨b, rfl, _, _, hw⟩ := open_float ht hval hd
  exact ⟨b, flt_lt hw, rfl⟩

theorem op_int {r : Reach} {b0 : Nat} {t : TypeId} {k : IntKind} {v : Value} {d : DataW H} {ps : List MemPlace} (ht : P.underlying t = some (.int k)) (hval : Value.okWide P w r b0 t v) (hd : DataW.Trod enc P w base spare held t v d ps) :
    ∃ n, (k.min ≤ n ∧ n ≤ k.max) ∧ v = .int k n := by
  obtain ⟨n, rfl, _, _, hw⟩ := open_int ht hval hd
  exact ⟨n, by simpa [Lit.wf] using hw, rfl⟩

theorem op_string {r : Reach} {b0 : Nat} {t : TypeId} {v : Value} {d : DataW H} {ps : List MemPlace} (ht : P.underlying t = some .string) (hval : Value.okWide P w r b0 t v) (hd : DataW.Trod enc P w base spare held t v d ps) :
    ∃ s : ByteArray, s.size ≤ maxLen ∧ v = .string s := by
  obtain ⟨s, rfl, _, _, hw⟩ := open_string ht hval hd
  exact ⟨s, hw, rfl⟩

theorem trod_float {t : TypeId} {k : FloatKind} {n : Nat} {v : Value} {x : DataW H × List MemPlace} (ht : P.underlying t = some (.float k)) (h : DataW.trod enc P w base spare held n t [v] = some x) :
    ∃ b, b < 2 ^ k.format.width ∧ v = .float k b := by
  cases n with
  | zero => simp [DataW.trod] at h
  | succ n =>
    simp only [DataW.trod, ht] at h
    cases v <;> simp at h
    rename_i k' b
    obtain ⟨⟨rfl, hw⟩, _⟩ := h
    exact ⟨b, flt_lt hw, rfl⟩

theorem op_vec {r : Reach} {b0 : Nat} {t f : TypeId} {F : Array Field} {v : Value} {d : DataW H} {p : List MemPlace} (hs : P.underlying t = some (.struct F)) (hf : P.underlying f = some (.float .f32))
    (hF : (F.map (·.type)) = #[f, f, f]) (hone0 : oneCellFields P F = true) (hC : P.cellsOf t = 3)
    (hv : Value.okWide P w r b0 t v) (h : DataW.Trod enc P w base spare held t v d p) :
    ∃ x y z : Nat, x < 2 ^ 32 ∧ y < 2 ^ 32 ∧ z < 2 ^ 32 ∧ v = .agg #[.float .f32 x, .float .f32 y, .float .f32 z] := by
  obtain ⟨F⟩ := F
  have hl : F.length = 3 := by simpa using congrArg Array.size hF
  match F, hl with
  | [f0, f1, f2], _ =>
    simp at hF
    obtain ⟨e0, e1, e2⟩ := hF
    have hone : oneCellFields P #[f0, f1, f2] = true := hone0
    obtain ⟨v0, v1, v2, y0, y1, y2, n, rfl, _, _, t0, t1, t2⟩ := Joins.open_agg3 hs hone hC hv h
    rw [e0] at t0; rw [e1] at t1; rw [e2] at t2
    obtain ⟨x, hx, rfl⟩ := trod_float hf t0
    obtain ⟨y, hy, rfl⟩ := trod_float hf t1
    obtain ⟨z, hz, rfl⟩ := trod_float hf t2
    exact ⟨x, y, z, hx, hy, hz, rfl⟩
end
end Go.Proofs.Ytepilofcionekaa
namespace Go.Proofs.Ytepilofcionekaa
open Go.ChangeShapes Go.WideShapes Go.ChangeAt Go.RowKit Go.Deep Go.Proofs.YtepilofcionekaaW.PrintWords Go.Proofs.Ytepilofcionekaa.PMesh Msh
set_option linter.unusedVariables false

section
variable {H : Type} {enc : TypeId × Value → H} {P : Program} {w : World} {base : Nat} {held : Bool}

/-- A slice whose elements are opened one by one. -/
theorem op_rows {α : Type} (d : Kd α) (ok : α → Prop) {t e : TypeId} (ht : P.underlying t = some (.slice e)) (hC : P.cellsOf e = d.sz)
    (hel : ∀ (n : Nat) (cs : List Value) (y : DataW H × List MemPlace), DataW.trod enc P w base (fun _ => true) held n e cs = some y → ∃ x : α, d.K w x cs ∧ ok x)
    {fuel : Nat} {cs : List Value} {y : DataW H × List MemPlace} (h : DataW.trod enc P w base (fun _ => true) held fuel t cs = some y) :
    ∃ (A : Option Addr) (c : Nat) (xs : List α), cs = [.slice A xs.length c] ∧ xs.length ≤ c ∧ xs.length ≤ 9223372036854775807 ∧ Kd.C d w A xs.length xs ∧ ∀ x ∈ xs, ok x := by
  rcases open_slice ht h with ⟨rfl, _⟩ | ⟨a, len, cap, m, n, D, Pl, rfl, _, hl, hm, hmm, hyy, hx⟩
  · exact ⟨none, 0, [], rfl, Nat.le_refl _, by simp, Kd.C_nil d w, fun x hx => by simp at hx⟩
  · have hml : len ≤ m := by rw [hmm]; split <;> omega
    have each : ∀ i, i < len → ∃ x : α, (∃ cs', w.cells? base (a.add (i * d.sz)) d.sz = some cs' ∧ d.K w x cs') ∧ ok x := by
      intro i hi
      obtain ⟨cs', hc, ht'⟩ := hx i (by omega)
      rw [hC] at hc
      obtain ⟨x, hk, ho⟩ := hel n cs' _ ht'
      exact ⟨x, ⟨cs', hc, hk⟩, ho⟩
    obtain ⟨xs, hxl, hxs⟩ : ∃ xs : List α, xs.length = len ∧ ∀ i x, xs[i]? = some x → (∃ cs', w.cells? base (a.add (i * d.sz)) d.sz = some cs' ∧ d.K w x cs') ∧ ok x := by
      clear hx hml hmm hl hm hyy h
      induction len with
      | zero => exact ⟨[], rfl, fun i x hx => by simp at hx⟩
      | succ k ih =>
        obtain ⟨xs, hl, hx⟩ := ih (fun i hi => each i (by omega))
        obtain ⟨z, hz⟩ := each k (by omega)
        refine ⟨xs ++ [z], by simp [hl], fun i x hix => ?_⟩
        rcases Nat.lt_or_ge i xs.length with h' | h'
        · rw [List.getElem?_append_left h'] at hix
          exact hx i x hix
        · rw [List.getElem?_append_right h'] at hix
          have : i - xs.length = 0 := by
            rcases Nat.eq_zero_or_pos (i - xs.length) with h0 | h0
            · exact h0
            · rw [List.getElem?_eq_none (by simp; omega)] at hix; cases hix
          obtain rfl : i = k := by omega
          rw [this] at hix
          cases hix
          exact hz
    have hM : maxLen = 9223372036854775807 := rfl
    subst hxl
    refine ⟨some a, cap, xs, rfl, hl, by omega, ⟨rfl, by omega, fun _ => ⟨a, rfl, fun j p hj => ?_⟩⟩, fun x hxm => ?_⟩
    · obtain ⟨⟨cs', hc, hk⟩, _⟩ := hxs j p hj
      obtain ⟨_, hcl, hat⟩ := World.cells?_some hc
      refine ⟨cs', hcl, hk, fun i u hu => ?_⟩
      have hi : i < d.sz := by
        rcases Nat.lt_or_ge i cs'.length with h' | h'
        · omega
        · rw [List.getElem?_eq_none h'] at hu; cases hu
      have := hat i hi
      rw [Go.Deep.add_add] at this
      rw [this, hu]
    · obtain ⟨i, hi, rfl⟩ := List.getElem_of_mem hxm
      exact (hxs i _ (List.getElem?_eq_getElem hi)).2

theorem trod_int1 {t : TypeId} {k : IntKind} {n : Nat} {cs : List Value} {x : DataW H × List MemPlace} (ht : P.underlying t = some (.int k)) (hC : P.cellsOf t = 1) (h : DataW.trod enc P w base (fun _ => true) held n t cs = some x) :
    ∃ b : Int, cs = [.int k b] ∧ (Lit.int k b).wf = true := by
  cases n with
  | zero => simp [DataW.trod] at h
  | succ n =>
    simp only [DataW.trod, ht] at h
    match cs with
    | [] => simp at h
    | [v] =>
      cases v <;> simp at h
      rename_i k' b
      obtain ⟨⟨rfl, hw⟩, _⟩ := h
      exact ⟨b, rfl, hw⟩
    | _ :: _ :: _ => simp at h

theorem op_tris {t e q : TypeId} (ht : P.underlying t = some (.slice e)) (he : P.underlying e = some (.slice q)) (hq : P.underlying q = some (.int .i64)) (ce : P.cellsOf e = 1) (cq : P.cellsOf q = 1)
    {fuel : Nat} {cs : List Value} {y : DataW H × List MemPlace} (h : DataW.trod enc P w base (fun _ => true) held fuel t cs = some y) :
    ∃ (A : Option Addr) (c : Nat) (T : List (List Int)), cs = [.slice A T.length c] ∧ T.length ≤ c ∧ T.length ≤ 9223372036854775807 ∧ Kd.C (Kd.slice q (Kd.int .i64)) w A T.length T ∧ ∀ t ∈ T, t.length ≤ 9223372036854775807 := by
  refine op_rows (Kd.slice q (Kd.int .i64)) (fun t => t.length ≤ 9223372036854775807) ht ce (fun n cs y hy => ?_) h
  obtain ⟨A, c, xs, rfl, hc, hl, hC, _⟩ := op_rows (Kd.int .i64) (fun _ => True) he cq (fun n cs y hy => by
    obtain ⟨b, rfl, _⟩ := trod_int1 hq cq hy
    exact ⟨b, rfl, trivial⟩) hy
  exact ⟨xs, ⟨A, c, rfl, hc, hC⟩, hl⟩

theorem op_vrow {t f : TypeId} {f0 f1 f2 : Field} {n : Nat} {cs : List Value} {x : DataW H × List MemPlace} (hs : P.underlying t = some (.struct #[f0, f1, f2])) (hf : P.underlying f = some (.float .f32)) (e0 : f0.type = f) (e1 : f1.type = f) (e2 : f2.type = f)
    (hone : oneCellFields P #[f0, f1, f2] = true) (hC : P.cellsOf t = 3) (h : DataW.trod enc P w base (fun _ => true) held n t cs = some x) :
    ∃ a b c : Nat, a < 4294967296 ∧ b < 4294967296 ∧ c < 4294967296 ∧ cs = [.float .f32 a, .float .f32 b, .float .f32 c] := by
  obtain ⟨y0, y1, y2, m, _, hl, t0, t1, t2⟩ := trod_struct3 hs h
  rw [hC] at hl
  obtain ⟨o0, k0⟩ := hone_of hone 0 f0 rfl
  obtain ⟨o1, k1⟩ := hone_of hone 1 f1 rfl
  obtain ⟨o2, k2⟩ := hone_of hone 2 f2 rfl
  match cs, hl with
  | [v0, v1, v2], _ =>
    rw [o0, k0, e0] at t0
    rw [o1, k1, e1] at t1
    rw [o2, k2, e2] at t2
    obtain ⟨a, ha, rfl⟩ := trod_float (v := v0) hf t0
    obtain ⟨b, hb, rfl⟩ := trod_float (v := v1) hf t1
    obtain ⟨c, hc, rfl⟩ := trod_float (v := v2) hf t2
    exact ⟨a, b, c, ha, hb, hc, rfl⟩

theorem op_mesh {r : Reach} {b0 : Nat} {t tp tv tf tt ts ti : TypeId} {F G : Array Field} {v : Value} {d : DataW H} {p : List MemPlace}
    (hs : P.underlying t = some (.struct F)) (hF : (F.map (·.type)) = #[tp, tt]) (hone : oneCellFields P F = true) (hC : P.cellsOf t = 2)
    (hp : P.underlying tp = some (.slice tv)) (hv : P.underlying tv = some (.struct G)) (hG : (G.map (·.type)) = #[tf, tf, tf]) (honeG : oneCellFields P G = true) (hCv : P.cellsOf tv = 3) (hf : P.underlying tf = some (.float .f32))
    (ht : P.underlying tt = some (.slice ts)) (hts : P.underlying ts = some (.slice ti)) (hti : P.underlying ti = some (.int .i64)) (cs1 : P.cellsOf ts = 1) (ci : P.cellsOf ti = 1)
    (hval : Value.okWide P w r b0 t v) (h : DataW.Trod enc P w base (fun _ => true) held t v d p) :
    ∃ (A : Option Addr) (c : Nat) (L : List S122) (B : Option Addr) (e : Nat) (T : List (List Int)), v = .agg #[.slice A L.length c, .slice B T.length e] ∧ Kd.C k122 w A L.length L ∧ L.length ≤ c ∧ Kd.C (Kd.slice ti (Kd.int .i64)) w B T.length T ∧ T.length ≤ e ∧ MeshOk L T := by
  obtain ⟨F⟩ := F
  obtain ⟨G⟩ := G
  have hl : F.length = 2 := by simpa using congrArg Array.size hF
  have hlG : G.length = 3 := by simpa using congrArg Array.size hG
  match F, hl, G, hlG with
  | [f0, f1], _, [g0, g1, g2], _ =>
    simp at hF hG
    obtain ⟨e0, e1⟩ := hF
    obtain ⟨e2, e3, e4⟩ := hG
    obtain ⟨v0, v1, y0, y1, n, rfl, _, _, t0, t1⟩ := Joins.open_agg2 hs hone hC hval h
    rw [e0] at t0
    rw [e1] at t1
    obtain ⟨A, c, L, hA, hc, hL, hCL, hok⟩ := op_rows k122 (fun x => x.f0 < 4294967296 ∧ x.f1 < 4294967296 ∧ x.f2 < 4294967296) hp hCv (fun n cs y hy => by
      obtain ⟨a, b, c, ha, hb, hc, rfl⟩ := op_vrow hv hf e2 e3 e4 honeG hCv hy
      exact ⟨⟨a, b, c⟩, k122_mk w ⟨a, b, c⟩, ha, hb, hc⟩) t0
    obtain ⟨B, e, T, hB, he, hT, hCT, hr⟩ := op_tris ht hts hti cs1 ci t1
    cases hA
    cases hB
    exact ⟨A, c, L, B, e, T, rfl, hCL, hc, hCT, he, ⟨hL, hT, hr, hok⟩⟩
end
end Go.Proofs.Ytepilofcionekaa
