/-
  The proof's texts, one behind the other: XM1 XMmark XMrows XM2 XMlaw XUmap XUmaps XUat XUedge0 XMref XMcopy XMval XUsheet0 XUsort XUsort1 XUeul0 XUtbe0 XUtbe XUeul XUedge1 XUvar XUeuls XUeull XOpen XMopen.
-/
import Derived.Test.YtepilofcionekaaFw
import Derived.Test.YtepilofcionekaaPMeshx4
import Derived.Test.YtepilofcionekaaPMeshx9
import Derived.Test.YtepilofcionekaaPMeshx15
import Derived.Test.YtepilofcionekaaPMeshx24
import Derived.Test.YtepilofcionekaaPMeshx35
import Derived.Test.YtepilofcionekaaPMeshx16
import Derived.Lib.Hide
import Derived.OwnWalk
import Derived.Test.YtepilofcionekaaPMeshx18
import Derived.Maps.OwnSet
import Derived.WideKeyPair
import Derived.WideKeyEntry
import Derived.DeepKeys4
import Derived.Maps.AppendAt
import Derived.Test.YtepilofcionekaaPMeshx26
import Derived.Test.YtepilofcionekaaPMeshx36
import Derived.Test.YtepilofcionekaaPMeshx23
import Derived.Deep.RegionHeld3
import Derived.Shelf.SlSortCmp.WholeK
import Derived.Shelf.SlicesG.Cmp
import Derived.Test.YtepilofcionekaaProg
import Derived.Test.YtepilofcionekaaPMeshx40
import Derived.Test.YtepilofcionekaaPMeshx29
import Derived.Laws.Cover2
import Derived.ProofKit
import Derived.WalkKit
import Derived.OpenShut
import Derived.Lib.SmallJoins
import Derived.Deep.Slices
import Derived.ChangeSame
namespace Go.Proofs.Ytepilofcionekaa.Msh
open Fl Go.RowKit Go.Proofs.YtepilofcionekaaW.PrintWords Go.Proofs.Ytepilofcionekaa.PMesh
set_option linter.unusedVariables false
set_option linter.unusedSimpArgs false

theorem wrap_fit {x : Int} (h0 : -9223372036854775808 ≤ x) (h1 : x ≤ 9223372036854775807) : wrap64 x = x := by unfold wrap64; omega

theorem rdI (l : List Int) (i : Nat) (h : i < l.length) : rd l (i : Int) = l[i] := by
  unfold rd
  rw [Int.toNat_natCast, List.getD_eq_getElem?_getD, List.getElem?_eq_getElem h]; rfl
theorem rdL (l : List (List Int)) (i : Nat) (h : i < l.length) : rd_L3 l (i : Int) = l[i] := by
  unfold rd_L3
  rw [Int.toNat_natCast, List.getD_eq_getElem?_getD, List.getElem?_eq_getElem h]; rfl
theorem rdV (l : List S42) (i : Nat) (h : i < l.length) : rd_T42 l (i : Int) = l[i] := by
  unfold rd_T42
  rw [Int.toNat_natCast, List.getD_eq_getElem?_getD, List.getElem?_eq_getElem h]; rfl
theorem rdW (l : List S122) (i : Nat) (h : i < l.length) : rd_T122 l (i : Int) = l[i] := by
  unfold rd_T122
  rw [Int.toNat_natCast, List.getD_eq_getElem?_getD, List.getElem?_eq_getElem h]; rfl

theorem up (i : Nat) (h : i ≤ 9223372036854775806) : wrap64 ((i : Int) + 1) = ((i + 1 : Nat) : Int) := by rw [wrap_fit (by omega) (by omega)]; omega

/-! sizes -/
theorem sz_loop (T : List (List Int)) (hr : ∀ t ∈ T, t.length ≤ 9223372036854775807) (hT : T.length ≤ 1048576) (d : Nat) : ∀ (k i : Nat) (a : Int), i ≤ T.length → T.length - i = d → d < k → 0 ≤ a → a ≤ 1048576 →
    ∃ r, laws_szInt64SS.l0 k T a (i : Int) = some r ∧ r ≤ 1048576 ∧ (0 ≤ r → ∀ j, i ≤ j → (h : j < T.length) → T[j].length ≤ 1048576) := by
  induction d with
  | zero =>
    intro k i a hi hd hk h0 h1
    obtain ⟨k, rfl⟩ : ∃ j, k = j + 1 := ⟨k - 1, by omega⟩
    simp only [laws_szInt64SS.l0]
    rw [if_neg (by omega)]
    exact ⟨a, rfl, h1, fun _ j hij hj => by omega⟩
  | succ d ih =>
    intro k i a hi hd hk h0 h1
    obtain ⟨k, rfl⟩ : ∃ j, k = j + 1 := ⟨k - 1, by omega⟩
    have hlt : i < T.length := by omega
    have hl := hr T[i] (List.getElem_mem hlt)
    simp only [laws_szInt64SS.l0]
    rw [if_pos (by omega), if_pos (by omega), rdL T i hlt]
    unfold laws_szInt64S.f
    rw [wrap_fit (by omega) (by omega)]
    by_cases hneg : a - (T[i].length : Int) < 0
    · rw [if_pos hneg]
      simp only [Option.bind_some]
      rw [if_pos (by decide)]
      exact ⟨-1, rfl, by decide, fun h => by omega⟩
    · rw [if_neg hneg]
      simp only [Option.bind_some]
      rw [if_neg hneg, up i (by omega)]
      obtain ⟨r, e, hr1, h⟩ := ih k (i + 1) (a - (T[i].length : Int)) (by omega) (by omega) (by omega) (by omega) (by omega)
      refine ⟨r, e, hr1, fun h0 j hij hj => ?_⟩
      rcases Nat.lt_or_ge i j with hlt' | hge
      · exact h h0 j hlt' hj
      · obtain rfl : i = j := by omega
        omega

theorem szMesh_f (Pl : List S122) (T : List (List Int)) (hP : Pl.length ≤ 9223372036854775807) (hT : T.length ≤ 9223372036854775807) (hr : ∀ t ∈ T, t.length ≤ 9223372036854775807) (k : Nat) (hk : 1048577 < k) (a : Int) (ha : 0 ≤ a) (ha1 : a ≤ 1048576) :
    ∃ r, laws_szMesh.f k Pl T a = some r ∧ r ≤ 1048576 ∧ (0 ≤ r → Pl.length ≤ 1048576 ∧ T.length ≤ 1048576 ∧ ∀ t ∈ T, t.length ≤ 1048576) := by
  unfold laws_szMesh.f laws_szVectorS.f
  rw [wrap_fit (by omega) (by omega)]
  by_cases h1 : a - (Pl.length : Int) < 0
  · rw [if_pos h1]
    simp only [Option.bind_some]
    rw [if_pos (by decide)]
    exact ⟨-1, rfl, by decide, fun h => by omega⟩
  · rw [if_neg h1]
    simp only [Option.bind_some]
    rw [if_neg h1]
    unfold laws_szInt64SS.f
    rw [wrap_fit (by omega) (by omega)]
    by_cases h2 : a - (Pl.length : Int) - (T.length : Int) < 0
    · rw [if_pos h2]
      simp only [Option.bind_some]
      rw [if_pos (by decide)]
      exact ⟨-1, rfl, by decide, fun h => by omega⟩
    · rw [if_neg h2]
      obtain ⟨r, e, hr1, h⟩ := sz_loop T hr (by omega) T.length k 0 _ (by omega) (by omega) (by omega) (Int.not_lt.1 h2) (by omega)
      rw [show ((0 : Nat) : Int) = 0 from rfl] at e
      rw [e]
      simp only [Option.bind_some]
      by_cases h3 : r < 0
      · rw [if_pos h3]
        exact ⟨-1, rfl, by decide, fun h => by omega⟩
      · rw [if_neg h3]
        refine ⟨r, rfl, hr1, fun h0 => ⟨by omega, by omega, fun t ht => ?_⟩⟩
        obtain ⟨j, hj, rfl⟩ := List.getElem_of_mem ht
        exact h h0 j (by omega) hj

/-! copies -/
def toV (x : S122) : S42 := ⟨x.f0, x.f1, x.f2⟩

theorem toI_loop (l : List Int) (hl : l.length ≤ 1048576) (d : Nat) : ∀ (k i : Nat) (out : List Int), i ≤ l.length → l.length - i = d → d < k → out.length = l.length → (∀ j, j < i → out[j]? = l[j]?) → laws_toInt64S.l0 k l out (i : Int) = some l := by
  induction d with
  | zero =>
    intro k i out hi hd hk ho hj
    obtain ⟨k, rfl⟩ : ∃ j, k = j + 1 := ⟨k - 1, by omega⟩
    simp only [laws_toInt64S.l0]
    rw [if_neg (by omega)]
    congr 1
    apply List.ext_getElem?
    intro j
    rcases Nat.lt_or_ge j i with h | h
    · exact hj j h
    · rw [List.getElem?_eq_none (by omega), List.getElem?_eq_none (by omega)]
  | succ d ih =>
    intro k i out hi hd hk ho hj
    obtain ⟨k, rfl⟩ : ∃ j, k = j + 1 := ⟨k - 1, by omega⟩
    have hil : i < l.length := by omega
    simp only [laws_toInt64S.l0]
    rw [if_pos (by omega), if_pos (by omega), if_pos (by omega), rdI l i hil, up i (by omega), Int.toNat_natCast]
    refine ih k (i + 1) _ (by omega) (by omega) (by omega) (by rw [List.length_set]; exact ho) (fun j hji => ?_)
    by_cases e : j = i
    · subst e; rw [List.getElem?_set_self (by omega), List.getElem?_eq_getElem hil]
    · rw [List.getElem?_set_ne (by omega)]; exact hj j (by omega)

theorem toI_f (l : List Int) (hl : l.length ≤ 1048576) (k : Nat) (hk : 1048577 < k) : laws_toInt64S.f k l = some l := by
  unfold laws_toInt64S.f
  rw [if_pos (by omega), Int.toNat_natCast, if_pos (by omega)]
  exact toI_loop l hl l.length k 0 _ (by omega) (by omega) (by omega) (by simp) (fun j hj => absurd hj (Nat.not_lt_zero _))

theorem toT_loop (T : List (List Int)) (hl : T.length ≤ 1048576) (hr : ∀ t ∈ T, t.length ≤ 1048576) (d : Nat) : ∀ (k i : Nat) (out : List (List Int)), i ≤ T.length → T.length - i = d → d + 1048578 < k → out.length = T.length → (∀ j, j < i → out[j]? = T[j]?) → laws_toInt64SS.l0 k T out (i : Int) = some T := by
  induction d with
  | zero =>
    intro k i out hi hd hk ho hj
    obtain ⟨k, rfl⟩ : ∃ j, k = j + 1 := ⟨k - 1, by omega⟩
    simp only [laws_toInt64SS.l0]
    rw [if_neg (by omega)]
    congr 1
    apply List.ext_getElem?
    intro j
    rcases Nat.lt_or_ge j i with h | h
    · exact hj j h
    · rw [List.getElem?_eq_none (by omega), List.getElem?_eq_none (by omega)]
  | succ d ih =>
    intro k i out hi hd hk ho hj
    obtain ⟨k, rfl⟩ : ∃ j, k = j + 1 := ⟨k - 1, by omega⟩
    have hil : i < T.length := by omega
    simp only [laws_toInt64SS.l0]
    rw [if_pos (by omega), if_pos (by omega), rdL T i hil, toI_f _ (hr _ (List.getElem_mem hil)) k (by omega)]
    simp only [Option.bind_some]
    rw [if_pos (by omega), up i (by omega), Int.toNat_natCast]
    refine ih k (i + 1) _ (by omega) (by omega) (by omega) (by rw [List.length_set]; exact ho) (fun j hji => ?_)
    by_cases e : j = i
    · subst e; rw [List.getElem?_set_self (by omega), List.getElem?_eq_getElem hil]
    · rw [List.getElem?_set_ne (by omega)]; exact hj j (by omega)

theorem toP_loop (L : List S122) (hl : L.length ≤ 1048576) (d : Nat) : ∀ (k i : Nat) (out : List S42), i ≤ L.length → L.length - i = d → d < k → out.length = L.length → (∀ j, j < i → out[j]? = (L.map toV)[j]?) → laws_toVectorS.l0 k L out (i : Int) = some (L.map toV) := by
  induction d with
  | zero =>
    intro k i out hi hd hk ho hj
    obtain ⟨k, rfl⟩ : ∃ j, k = j + 1 := ⟨k - 1, by omega⟩
    simp only [laws_toVectorS.l0]
    rw [if_neg (by omega)]
    congr 1
    apply List.ext_getElem?
    intro j
    rcases Nat.lt_or_ge j i with h | h
    · exact hj j h
    · rw [List.getElem?_eq_none (by omega), List.getElem?_eq_none (by rw [List.length_map]; omega)]
  | succ d ih =>
    intro k i out hi hd hk ho hj
    obtain ⟨k, rfl⟩ : ∃ j, k = j + 1 := ⟨k - 1, by omega⟩
    have hil : i < L.length := by omega
    simp only [laws_toVectorS.l0]
    rw [if_pos (by omega), if_pos (by omega), rdW L i hil]
    unfold laws_toVector.f
    simp only [Option.bind_some]
    rw [if_pos (by omega), up i (by omega), Int.toNat_natCast]
    refine ih k (i + 1) _ (by omega) (by omega) (by omega) (by rw [List.length_set]; exact ho) (fun j hji => ?_)
    by_cases e : j = i
    · subst e; rw [List.getElem?_set_self (by omega), List.getElem?_map, List.getElem?_eq_getElem hil]; rfl
    · rw [List.getElem?_set_ne (by omega)]; exact hj j (by omega)

theorem toMesh_f (L : List S122) (T : List (List Int)) (hL : L.length ≤ 1048576) (hT : T.length ≤ 1048576) (hr : ∀ t ∈ T, t.length ≤ 1048576) (k : Nat) (hk : 2097155 < k) : laws_toMesh.f k L T = some (L.map toV, T) := by
  unfold laws_toMesh.f laws_toVectorS.f
  rw [if_pos (by omega), Int.toNat_natCast, if_pos (by omega)]
  have h1 := toP_loop L hL L.length k 0 (List.replicate L.length z42) (by omega) (by omega) (by omega) (by simp) (fun j hj => absurd hj (Nat.not_lt_zero _))
  rw [show ((0 : Nat) : Int) = 0 from rfl] at h1
  rw [h1]
  simp only [Option.bind_some]
  unfold laws_toInt64SS.f
  rw [if_pos (by omega), Int.toNat_natCast, if_pos (by omega)]
  have h2 := toT_loop T hT hr T.length k 0 (List.replicate T.length []) (by omega) (by omega) (by omega) (by simp) (fun j hj => absurd hj (Nat.not_lt_zero _))
  rw [show ((0 : Nat) : Int) = 0 from rfl] at h2
  rw [h2]
  rfl

/-! equal meshes -/
/-- A vector of floats below 2^32. -/
def okV (x : S42) : Prop := x.f0 < 4294967296 ∧ x.f1 < 4294967296 ∧ x.f2 < 4294967296
/-- Vectors with the same values. -/
def simV (x y : S42) : Prop := simF x.f0 y.f0 = true ∧ simF x.f1 y.f1 = true ∧ simF x.f2 y.f2 = true
theorem simV_self {x : S42} (h : okV x) : simV x x := ⟨simF_self h.1, simF_self h.2.1, simF_self h.2.2⟩
def simP (a b : List S42) : Prop := a.length = b.length ∧ ∀ (i : Nat) (ha : i < a.length) (hb : i < b.length), simV a[i] b[i]
theorem simP_self {a : List S42} (h : ∀ x ∈ a, okV x) : simP a a := ⟨rfl, fun i ha _ => simV_self (h _ (List.getElem_mem ha))⟩

theorem eqV_loop (a b : List S42) (hl : a.length ≤ 1048576) (h : simP a b) (d : Nat) : ∀ (k i : Nat), i ≤ a.length → a.length - i = d → d < k → laws_eqVectorS.l0 k a b (i : Int) = some true := by
  have hab := h.1
  induction d with
  | zero =>
    intro k i hi hd hk
    obtain ⟨k, rfl⟩ : ∃ j, k = j + 1 := ⟨k - 1, by omega⟩
    simp only [laws_eqVectorS.l0]
    rw [if_neg (by omega)]
  | succ d ih =>
    intro k i hi hd hk
    obtain ⟨k, rfl⟩ : ∃ j, k = j + 1 := ⟨k - 1, by omega⟩
    have hia : i < a.length := by omega
    have hib : i < b.length := by omega
    simp only [laws_eqVectorS.l0]
    rw [if_pos (by omega), if_pos (by omega), if_pos (by omega), rdV a i hia, rdV b i hib]
    unfold laws_eqVector.f
    have hs := h.2 i hia hib
    unfold simV at hs
    rw [if_pos hs]
    simp only [Option.bind_some]
    rw [if_pos trivial, up i (by omega)]
    exact ih k (i + 1) (by omega) (by omega) (by omega)

theorem eqI_loop (l : List Int) (hl : l.length ≤ 1048576) (d : Nat) : ∀ (k i : Nat), i ≤ l.length → l.length - i = d → d < k → laws_eqInt64S.l0 k l l (i : Int) = some true := by
  induction d with
  | zero =>
    intro k i hi hd hk
    obtain ⟨k, rfl⟩ : ∃ j, k = j + 1 := ⟨k - 1, by omega⟩
    simp only [laws_eqInt64S.l0]
    rw [if_neg (by omega)]
  | succ d ih =>
    intro k i hi hd hk
    obtain ⟨k, rfl⟩ : ∃ j, k = j + 1 := ⟨k - 1, by omega⟩
    simp only [laws_eqInt64S.l0]
    rw [if_pos (by omega), if_pos (by omega), if_pos (by omega), if_pos trivial, up i (by omega)]
    exact ih k (i + 1) (by omega) (by omega) (by omega)

theorem eqI_f (l : List Int) (hl : l.length ≤ 1048576) (k : Nat) (hk : 1048577 < k) : laws_eqInt64S.f k l l = some true := by
  unfold laws_eqInt64S.f
  rw [if_pos rfl]
  exact eqI_loop l hl l.length k 0 (by omega) (by omega) (by omega)

theorem eqT_loop (T : List (List Int)) (hl : T.length ≤ 1048576) (hr : ∀ t ∈ T, t.length ≤ 1048576) (d : Nat) : ∀ (k i : Nat), i ≤ T.length → T.length - i = d → d + 1048578 < k → laws_eqInt64SS.l0 k T T (i : Int) = some true := by
  induction d with
  | zero =>
    intro k i hi hd hk
    obtain ⟨k, rfl⟩ : ∃ j, k = j + 1 := ⟨k - 1, by omega⟩
    simp only [laws_eqInt64SS.l0]
    rw [if_neg (by omega)]
  | succ d ih =>
    intro k i hi hd hk
    obtain ⟨k, rfl⟩ : ∃ j, k = j + 1 := ⟨k - 1, by omega⟩
    have hil : i < T.length := by omega
    simp only [laws_eqInt64SS.l0]
    rw [if_pos (by omega), if_pos (by omega), if_pos (by omega), rdL T i hil, eqI_f _ (hr _ (List.getElem_mem hil)) k (by omega)]
    simp only [Option.bind_some]
    rw [if_pos trivial, up i (by omega)]
    exact ih k (i + 1) (by omega) (by omega) (by omega)

theorem eqMesh_f (a b : List S42) (T : List (List Int)) (h : simP a b) (hL : a.length ≤ 1048576) (hT : T.length ≤ 1048576) (hr : ∀ t ∈ T, t.length ≤ 1048576) (k : Nat) (hk : 2097155 < k) : laws_eqMesh.f k a T b T = some true := by
  unfold laws_eqMesh.f laws_eqVectorS.f
  have hab := h.1
  have h1 := eqV_loop a b hL h a.length k 0 (by omega) (by omega) (by omega)
  have h2 := eqT_loop T hT hr T.length k 0 (by omega) (by omega) (by omega)
  rw [show ((0 : Nat) : Int) = 0 from rfl] at h1 h2
  rw [if_pos (by omega), h1]
  simp only [Option.bind_some]
  rw [if_pos trivial]
  unfold laws_eqInt64SS.f
  rw [if_pos rfl, h2]
  rfl

/-! valid meshes -/
def inB (n : Nat) (p : Int) : Bool := decide (0 ≤ p ∧ p < (n : Int))
/-- A triangle of n places. -/
def triB (n : Nat) (t : List Int) : Bool := match t with
  | [a, b, c] => decide (a ≠ b) && decide (b ≠ c) && decide (a ≠ c) && inB n a && inB n b && inB n c
  | _ => false
def validB (n : Nat) (T : List (List Int)) : Bool := decide (n ≤ 64) && decide (T.length ≤ 128) && T.all (triB n)

theorem in_f (n : Nat) (hn : n ≤ 64) (p : Int) : spec_l00In.f p 0 (wrap64 ((n : Int) - 1)) = some (inB n p) := by
  unfold spec_l00In.f inB
  rw [wrap_fit (by omega) (by omega)]
  by_cases h : p ≥ 0
  · rw [if_pos h]; congr 1; rw [decide_eq_decide]; omega
  · rw [if_neg h]; congr 1; symm; rw [decide_eq_false_iff_not]; omega
theorem within_f (n : Nat) (hn : n ≤ 64) (p : Int) : impl_within.f p 0 (wrap64 ((n : Int) - 1)) = some (inB n p) := in_f n hn p

theorem tri3 {t : List Int} (h : t.length = 3) : ∃ a b c, t = [a, b, c] := by
  match t, h with
  | [a, b, c], _ => exact ⟨a, b, c, rfl⟩
theorem triB_len {n : Nat} {t : List Int} (h : triB n t = true) : t.length = 3 := by
  unfold triB at h
  split at h
  · rfl
  · cases h
theorem triB_not {n : Nat} {t : List Int} (h : ¬ t.length = 3) : triB n t = false := by
  cases e : triB n t
  · rfl
  · exact absurd (triB_len e) h

theorem rd3_0 (a b c : Int) : rd [a, b, c] 0 = a := rfl
theorem rd3_1 (a b c : Int) : rd [a, b, c] 1 = b := rfl
theorem rd3_2 (a b c : Int) : rd [a, b, c] 2 = c := rfl

theorem triB_rd (n : Nat) (t : List Int) (h : t.length = 3) : triB n t = (decide (rd t 0 ≠ rd t 1) && decide (rd t 1 ≠ rd t 2) && decide (rd t 0 ≠ rd t 2) && t.all (inB n)) := by
  obtain ⟨a, b, c, rfl⟩ := tri3 h
  rw [rd3_0, rd3_1, rd3_2]
  simp only [triB, List.all_cons, List.all_nil, Bool.and_true, Bool.and_assoc]

theorem triangle_f (n : Nat) (hn : n ≤ 64) (t : List Int) (k : Nat) (hk : 1 < k) : spec_l02Triangle.f k t (n : Int) = some (triB n t) := by
  obtain ⟨k, rfl⟩ : ∃ j, k = j + 1 := ⟨k - 1, by omega⟩
  unfold spec_l02Triangle.f
  by_cases h3 : t.length = 3
  · obtain ⟨a, b, c, rfl⟩ := tri3 h3
    simp only [spec_l02Triangle.j0, rd3_0, rd3_1, rd3_2, in_f n hn, Option.bind_some]
    simp only [triB, List.length_cons, List.length_nil]
    by_cases e1 : a = b <;> by_cases e2 : b = c <;> by_cases e3 : a = c <;> by_cases i1 : inB n a = true <;> by_cases i2 : inB n b = true <;> simp_all
  · rw [if_neg (by omega)]
    simp only [spec_l02Triangle.j0]
    rw [if_pos trivial, triB_not h3]

theorem is_loop (Q : List S42) (T : List (List Int)) (hn : Q.length ≤ 64) (hT : T.length ≤ 128) (d : Nat) : ∀ (k i : Nat), i ≤ T.length → T.length - i = d → d + 2 < k → spec_l02Is.l0 k (i : Int) Q T = some ((T.drop i).all (triB Q.length)) := by
  induction d with
  | zero =>
    intro k i hi hd hk
    obtain ⟨k, rfl⟩ : ∃ j, k = j + 1 := ⟨k - 1, by omega⟩
    simp only [spec_l02Is.l0]
    rw [if_neg (by omega), List.drop_of_length_le (by omega)]
    rfl
  | succ d ih =>
    intro k i hi hd hk
    obtain ⟨k, rfl⟩ : ∃ j, k = j + 1 := ⟨k - 1, by omega⟩
    have hil : i < T.length := by omega
    have e : T.drop i = T[i] :: T.drop (i + 1) := List.drop_eq_getElem_cons hil
    simp only [spec_l02Is.l0]
    rw [if_pos (by omega), if_pos (by omega), rdL T i hil, triangle_f _ hn _ k (by omega), e, List.all_cons]
    simp only [Option.bind_some]
    by_cases h : triB Q.length T[i] = true
    · rw [if_pos h, up i (by omega), ih k (i + 1) (by omega) (by omega) (by omega), h]; rfl
    · rw [if_neg h, Bool.eq_false_iff.2 h]; rfl

theorem is_f (Q : List S42) (T : List (List Int)) (k : Nat) (hk : 200 < k) : spec_l02Is.f k Q T = some (validB Q.length T) := by
  obtain ⟨k, rfl⟩ : ∃ j, k = j + 1 := ⟨k - 1, by omega⟩
  unfold spec_l02Is.f validB
  by_cases h1 : Q.length ≤ 64
  · rw [if_neg (by omega)]
    simp only [spec_l02Is.j0]
    by_cases h2 : T.length ≤ 128
    · rw [if_neg (by simp; omega)]
      have := is_loop Q T h1 h2 T.length k 0 (by omega) (by omega) (by omega)
      rw [show ((0 : Nat) : Int) = 0 from rfl] at this
      rw [this]
      simp [h1, h2]
    · rw [if_pos (by simp; omega)]
      simp [h2]
  · rw [if_pos (by omega)]
    simp only [spec_l02Is.j0]
    rw [if_pos trivial]
    simp [h1]

theorem vm_inner (T : List (List Int)) (n : Nat) (hn : n ≤ 64) (i : Nat) (t : List Int) (ht : t.length = 3) (d : Nat) : ∀ (k j : Nat), j ≤ 3 → 3 - j = d → d < k →
    ∃ k', k' + d + 1 = k ∧ impl_ValidMesh.l1 k (n : Int) T (T.length : Int) (i : Int) t (t.length : Int) (j : Int) = if (t.drop j).all (inB n) = true then impl_ValidMesh.l0 k' (n : Int) T (T.length : Int) (wrap64 ((i : Int) + 1)) else some false := by
  induction d with
  | zero =>
    intro k j hj hd hk
    obtain ⟨k, rfl⟩ : ∃ j, k = j + 1 := ⟨k - 1, by omega⟩
    refine ⟨k, by omega, ?_⟩
    simp only [impl_ValidMesh.l1]
    rw [if_neg (by omega), List.drop_of_length_le (by omega)]
    rfl
  | succ d ih =>
    intro k j hj hd hk
    obtain ⟨k, rfl⟩ : ∃ j, k = j + 1 := ⟨k - 1, by omega⟩
    have hjl : j < t.length := by omega
    obtain ⟨k', hk', h⟩ := ih k (j + 1) (by omega) (by omega) (by omega)
    refine ⟨k', by omega, ?_⟩
    have e : t.drop j = t[j] :: t.drop (j + 1) := List.drop_eq_getElem_cons hjl
    simp only [impl_ValidMesh.l1]
    rw [if_pos (by omega), if_pos (by omega), if_pos (by omega), rdI t j hjl, within_f n hn, e, List.all_cons]
    simp only [Option.bind_some]
    by_cases hb : inB n t[j] = true
    · rw [if_pos hb, up j (by omega), h, hb, Bool.true_and]
    · rw [if_neg hb, if_neg (by simp [hb])]

theorem vm_loop (n : Nat) (hn : n ≤ 64) (T : List (List Int)) (hT : T.length ≤ 128) (d : Nat) : ∀ (k i : Nat), i ≤ T.length → T.length - i = d → 10 * d + 5 < k → impl_ValidMesh.l0 k (n : Int) T (T.length : Int) (i : Int) = some ((T.drop i).all (triB n)) := by
  induction d with
  | zero =>
    intro k i hi hd hk
    obtain ⟨k, rfl⟩ : ∃ j, k = j + 1 := ⟨k - 1, by omega⟩
    simp only [impl_ValidMesh.l0]
    rw [if_neg (by omega), List.drop_of_length_le (by omega)]
    rfl
  | succ d ih =>
    intro k i hi hd hk
    obtain ⟨k, rfl⟩ : ∃ j, k = j + 2 := ⟨k - 2, by omega⟩
    have hil : i < T.length := by omega
    have e : T.drop i = T[i] :: T.drop (i + 1) := List.drop_eq_getElem_cons hil
    simp only [impl_ValidMesh.l0]
    rw [if_pos (by omega), if_pos (by omega), if_pos (by omega), rdL T i hil, e, List.all_cons]
    by_cases h3 : T[i].length = 3
    · rw [if_pos (by omega), if_pos (by omega), if_pos (by omega)]
      obtain ⟨k', hk', h1⟩ := vm_inner T n hn i T[i] h3 3 k 0 (by omega) (by omega) (by omega)
      have h0 := ih k' (i + 1) (by omega) (by omega) (by omega)
      rw [up i (by omega), h0, List.drop_zero] at h1
      rw [triB_rd n _ h3]
      generalize T[i] = t at *
      have h1' : impl_ValidMesh.l1 k (n : Int) T (T.length : Int) (i : Int) t (t.length : Int) 0 = if t.all (inB n) = true then some ((T.drop (i + 1)).all (triB n)) else some false := h1
      by_cases e1 : rd t 0 = rd t 1
      · rw [if_pos e1]
        simp [impl_ValidMesh.j2, e1]
      · rw [if_neg e1, if_pos (by omega)]
        by_cases e2 : rd t 1 = rd t 2
        · rw [if_pos e2]
          simp [impl_ValidMesh.j2, e2]
        · rw [if_neg e2]
          simp only [impl_ValidMesh.j2]
          by_cases e3 : rd t 0 = rd t 2
          · rw [if_pos (by simp [e3])]
            simp [e3]
          · rw [if_neg (by simp [e3]), h1']
            cases t.all (inB n) <;> simp [e1, e2, e3]
    · rw [if_neg (by omega)]
      simp only [impl_ValidMesh.j2]
      rw [if_pos trivial, triB_not h3]; rfl

theorem valid_f (Q : List S42) (T : List (List Int)) (k : Nat) (hk : 2000 < k) : impl_ValidMesh.f k Q T = some (validB Q.length T) := by
  obtain ⟨k, rfl⟩ : ∃ j, k = j + 1 := ⟨k - 1, by omega⟩
  unfold impl_ValidMesh.f validB
  by_cases h1 : Q.length ≤ 64
  · rw [if_neg (by omega)]
    simp only [impl_ValidMesh.j0]
    by_cases h2 : T.length ≤ 128
    · rw [if_neg (by simp; omega)]
      have := vm_loop Q.length h1 T h2 T.length k 0 (by omega) (by omega) (by omega)
      rw [show ((0 : Nat) : Int) = 0 from rfl] at this
      rw [this]
      simp [h1, h2]
    · rw [if_pos (by simp; omega)]
      simp [h2]
  · rw [if_pos (by omega)]
    simp only [impl_ValidMesh.j0]
    rw [if_pos trivial]
    simp [h1]
end Go.Proofs.Ytepilofcionekaa.Msh
namespace Go.Proofs.Ytepilofcionekaa
open Go.RowKit Go.Proofs.YtepilofcionekaaW.PrintWords Go.Proofs.Ytepilofcionekaa.PMesh Msh
set_option linter.unusedVariables false

/-- a, a + 1, .. -/
def marksA (a : Int) (n : Nat) : List Int := (List.range n).map fun t : Nat => a + (t : Int)
theorem marksA_len (a : Int) (n : Nat) : (marksA a n).length = n := by simp [marksA]
theorem marksA_get (a : Int) (n i : Nat) (h : i < (marksA a n).length) : (marksA a n)[i] = a + (i : Int) := by simp [marksA]

/-- The first i marked. -/
def partA (a : Int) (l : List Int) (i : Nat) : List Int := marksA a i ++ l.drop i
theorem partA_len (a : Int) (l : List Int) (i : Nat) (h : i ≤ l.length) : (partA a l i).length = l.length := by simp [partA, marksA]; omega
theorem partA_all (a : Int) (l : List Int) : partA a l l.length = marksA a l.length := by simp [partA]
theorem partA_set (a : Int) (l : List Int) (i : Nat) (h : i < l.length) : (partA a l i).set i (a + (i : Int)) = partA a l (i + 1) := by
  have e1 : marksA a (i + 1) = marksA a i ++ [a + (i : Int)] := by simp [marksA, List.range_succ]
  have e2 : l.drop i = l[i] :: l.drop (i + 1) := List.drop_eq_getElem_cons h
  have hm : (marksA a i).length = i := marksA_len a i
  unfold partA
  rw [e1, e2, List.set_append, if_neg (by omega), hm, Nat.sub_self, List.set_cons_zero, List.append_assoc]
  rfl

theorem mark_ints (v : Value) (l : List Int) (hl : l.length ≤ 1048576) (a : Int) (ha : 0 ≤ a) (ha1 : a ≤ 1152921504606846976) (w : World) (base : Nat) (h : w.ownsRow base 2 1 v l.length (encs (Value.int .i64) l)) :
    Calls Try.prog 31 #[v, .int .i64 a] w fun e w' => e = .returned (.int .i64 (a + (l.length : Int))) ∧ w'.ownsRow base 2 1 v l.length (encs (Value.int .i64) (marksA a l.length)) ∧ w.grownBy w' v.ownBlock := by
  by_cases h0 : l.length = 0
  · obtain rfl : l = [] := List.length_eq_zero_iff.1 h0
    obtain ⟨A, c, rfl⟩ := own_slice h
    have HO := Lib.hid h
    clear h h0 hl
    show Calls Try.prog 31 #[.slice A 0 c, .int .i64 a] w _
    go_enter Try.func31, Try.ntmps31
    go_wp2_with fail
    go_loopw [1, 5] (fun k i wr => wr = w ∧ k = .int .i64 a ∧ i = .int .i64 0) (fun _ _ _ => 0)
    case atStart => exact ⟨rfl, rfl, rfl⟩
    case round =>
      obtain ⟨rfl, rfl, rfl⟩ := hrel
      go_wp2_with fail
      go_ret
      exact ⟨by simp, HO.out, World.grownBy.refl _ _⟩
  · obtain ⟨g, c, rfl, hgb, hgl⟩ := h.form (by omega)
    have HO := Lib.hid h
    clear h
    go_enter Try.func31, Try.ntmps31
    go_wp2_with fail
    go_loopw [1, 5] (fun k i wr => ∃ j : Nat, j ≤ l.length ∧ k = .int .i64 (a + (j : Int)) ∧ i = .int .i64 (j : Int) ∧ Hid (wr.ownsRow base 2 1 (.slice (some ⟨g, 0, none⟩) l.length c) l.length (encs (Value.int .i64) (partA a l j))) ∧ w.grownBy wr (some g)) (fun _ i _ => l.length - (intOf i).toNat)
    case atStart => exact ⟨0, Nat.zero_le _, by simp, rfl, by exact HO.out, World.grownBy.refl _ _⟩
    case round =>
      obtain ⟨j, hj, rfl, rfl, hO, hg⟩ := hrel
      by_cases hlt : j < l.length
      · have b1 : (j : Int) < (l.length : Int) := by omega
        have b2 : (0 : Int) ≤ (j : Int) := by omega
        have b3 : (j : Int) < 1048576 := by omega
        obtain ⟨hcell, hfr⟩ := own_at_of (d := (0 : Int)) hO.out (j : Int) b2 b1
        obtain ⟨hst, hgs⟩ := own_store_of (enc := Value.int .i64) hO.out (j : Int) (a + (j : Int))
        rw [Int.toNat_natCast] at hcell hfr hst hgs
        rw [partA_set a l j hlt] at hst
        have HST := Lib.hid hst
        have HGS := Lib.hid hgs
        clear hst hgs
        go_wp2_with fail
        go_roundw
        case rel => exact ⟨j + 1, hlt, by first | rfl | (congr 1; omega) | (simp; omega), by simp, by exact HST.out, World.grownBy.trans hg HGS.out⟩
        case measure => simp [intOf]; omega
      · obtain rfl : j = l.length := by omega
        go_wp2_with fail
        go_ret
        refine ⟨rfl, ?_, hg⟩
        have := hO.out
        rw [partA_all] at this
        exact this

theorem held_loopA (a : Int) (ha : 0 ≤ a) (ha1 : a ≤ 1152921504606846976) (n : Nat) (hl : n ≤ 1048576) (d : Nat) : ∀ (k i : Nat), i ≤ n → n - i = d → d < k → laws_heldInt64S.l0 k (marksA a n) (a + (i : Int)) (i : Int) = some (a + (n : Int)) := by
  have hml := marksA_len a n
  induction d with
  | zero =>
    intro k i hi hd hk
    obtain ⟨k, rfl⟩ : ∃ j, k = j + 1 := ⟨k - 1, by omega⟩
    obtain rfl : i = n := by omega
    simp only [laws_heldInt64S.l0]
    rw [if_neg (by omega)]
  | succ d ih =>
    intro k i hi hd hk
    obtain ⟨k, rfl⟩ : ∃ j, k = j + 1 := ⟨k - 1, by omega⟩
    simp only [laws_heldInt64S.l0]
    rw [if_pos (by omega), if_pos (by omega), rdI _ i (by omega), marksA_get, if_pos (by omega), Msh.wrap_fit (by omega) (by omega), up i (by omega), show a + (i : Int) + 1 = a + ((i + 1 : Nat) : Int) by omega]
    exact ih k (i + 1) (by omega) (by omega) (by omega)

theorem held_fA (a : Int) (ha : 0 ≤ a) (ha1 : a ≤ 1152921504606846976) (n : Nat) (hl : n ≤ 1048576) : laws_heldInt64S.f 1048577 (marksA a n) a = some (a + (n : Int)) := by
  unfold laws_heldInt64S.f
  have := held_loopA a ha ha1 n hl n 1048577 0 (by omega) (by omega) (by omega)
  rw [show a + ((0 : Nat) : Int) = a by omega] at this
  exact this

/-- Blocks from a up to b. -/
def In (a b : Nat) (k : Nat) : Prop := a ≤ k ∧ k < b

/-- What was made from base on lies from base up to the world's size. -/
theorem R_in {α : Type} {d : Kd α} {e base : Nat} {w : World} {v : Value} {xs : List α} {ok : Nat → Prop} (h : d.R e w base ok v xs) : d.R e w base (In base w.heap.size) v xs := Kd.R_mono (Kd.R_bound h) (fun k hk => ⟨hk.2.1, hk.2.2.1⟩)
theorem S_in {α : Type} {d : Kd α} {e base : Nat} {w : World} {v : Value} {xs : List α} {ok : Nat → Prop} (h : Kd.S d e w base ok v xs) : Kd.S d e w base (In base w.heap.size) v xs := Kd.S_mono (Kd.S_bound h) (fun k hk => ⟨hk.2.1, hk.2.2.1⟩)

theorem In_off {a b c d : Nat} (h : b ≤ c ∨ d ≤ a) : ∀ k, In a b k → ¬ In c d k := fun k h1 h2 => by unfold In at h1 h2; omega

/-- A grown row of the range: what is not in the range stays. -/
theorem kept_grown {w w' : World} {a b : Nat} {row : Option Nat} (h : w.grownBy w' row) (hr : ∀ k, row = some k → In a b k) : Kept w w' (In a b) := ⟨h.size, fun i hi hn => h.block i hi (fun e => hn (hr i e.symm))⟩
end Go.Proofs.Ytepilofcionekaa
namespace Go.Proofs.Ytepilofcionekaa
open Go.RowKit Go.Proofs.YtepilofcionekaaW.PrintWords Go.Proofs.Ytepilofcionekaa.PMesh Msh
set_option linter.unusedVariables false

/-- How many numbers rows hold. -/
def tot : List (List Int) → Nat
  | [] => 0
  | t :: r => t.length + tot r
/-- Rows marked, from a on. -/
def marksT (a : Int) : List (List Int) → List (List Int)
  | [] => []
  | t :: r => marksA a t.length :: marksT (a + (t.length : Int)) r

theorem tot_append (x y : List (List Int)) : tot (x ++ y) = tot x + tot y := by
  induction x with
  | nil => simp [tot]
  | cons t r ih => simp [tot, ih]; omega
theorem marksT_append (x y : List (List Int)) : ∀ a, marksT a (x ++ y) = marksT a x ++ marksT (a + (tot x : Int)) y := by
  induction x with
  | nil => intro a; simp [tot, marksT]
  | cons t r ih =>
    intro a
    simp only [List.cons_append, marksT, tot, ih]
    congr 3
    omega
theorem marksT_len (x : List (List Int)) : ∀ a, (marksT a x).length = x.length := by
  induction x with
  | nil => intro a; rfl
  | cons t r ih => intro a; simp [marksT, ih]
theorem tot_le (T : List (List Int)) (hr : ∀ t ∈ T, t.length ≤ 1048576) : tot T ≤ T.length * 1048576 := by
  induction T with
  | nil => simp [tot]
  | cons t r ih =>
    have h1 := hr t List.mem_cons_self
    have h2 := ih (fun x hx => hr x (List.mem_cons_of_mem _ hx))
    simp only [tot, List.length_cons]
    omega
theorem tot_take (T : List (List Int)) (j : Nat) : tot (T.take j) ≤ tot T := by
  have := tot_append (T.take j) (T.drop j)
  rw [List.take_append_drop] at this
  omega

/-- The first j rows marked. -/
def partT (a : Int) (T : List (List Int)) (j : Nat) : List (List Int) := marksT a (T.take j) ++ T.drop j
theorem partT_zero (a : Int) (T : List (List Int)) : partT a T 0 = T := by simp [partT, marksT]
theorem partT_all (a : Int) (T : List (List Int)) : partT a T T.length = marksT a T := by simp [partT]
theorem partT_len (a : Int) (T : List (List Int)) (j : Nat) (h : j ≤ T.length) : (partT a T j).length = T.length := by simp [partT, marksT_len]; omega
theorem partT_get (a : Int) (T : List (List Int)) (j : Nat) (h : j < T.length) : (partT a T j).getD j [] = T[j] := by
  have hl : (marksT a (T.take j)).length = j := by rw [marksT_len, List.length_take]; omega
  unfold partT
  rw [List.getD_eq_getElem?_getD, List.getElem?_append_right (by omega), hl, Nat.sub_self, List.drop_eq_getElem_cons h]
  rfl
theorem partT_set (a : Int) (T : List (List Int)) (j : Nat) (h : j < T.length) : (partT a T j).set j (marksA (a + (tot (T.take j) : Int)) T[j].length) = partT a T (j + 1) := by
  have hl : (marksT a (T.take j)).length = j := by rw [marksT_len, List.length_take]; omega
  have e2 : T.drop j = T[j] :: T.drop (j + 1) := List.drop_eq_getElem_cons h
  unfold partT
  rw [List.take_succ_eq_append_getElem h, marksT_append, e2, List.set_append, if_neg (by omega), hl, Nat.sub_self, List.set_cons_zero, List.append_assoc]
  rfl
theorem tot_succ (T : List (List Int)) (j : Nat) (h : j < T.length) : tot (T.take (j + 1)) = tot (T.take j) + T[j].length := by
  rw [List.take_succ_eq_append_getElem h, tot_append]
  simp [tot]

set_option maxHeartbeats 1000000 in
set_option maxRecDepth 100000 in
theorem mark_rows (v : Value) (T : List (List Int)) (hT : T.length ≤ 1048576) (hr : ∀ t ∈ T, t.length ≤ 1048576) (a : Int) (ha : 0 ≤ a) (ha1 : a ≤ 17592186044416) (w : World) (base : Nat) (ok : Nat → Prop) (b0 : Nat) (w0 : World) (K : Below b0 w0 w) (hb0 : b0 ≤ base) (hbw : b0 ≤ w.heap.size)
    (h : Kd.S (Kd.slice 2 (Kd.int .i64)) 56 w base ok v T) :
    Calls Try.prog 64 #[v, .int .i64 a] w fun e w' => e = .returned (.int .i64 (a + (tot T : Int))) ∧ Kd.S (Kd.slice 2 (Kd.int .i64)) 56 w' base ok v (marksT a T) ∧ Kept w w' ok ∧ Below b0 w0 w' := by
  have htot := tot_le T hr
  have htot2 : T.length * 1048576 ≤ 1099511627776 := by omega
  by_cases h0 : T.length = 0
  · obtain rfl : T = [] := List.length_eq_zero_iff.1 h0
    obtain ⟨A, c, rfl⟩ := Kd.S_slice h
    have HS := Lib.hid h
    have HK := Lib.hid K
    clear h h0 hT hr K htot htot2
    show Calls Try.prog 64 #[.slice A 0 c, .int .i64 a] w _
    go_enter Try.func64, Try.ntmps64
    go_wp2_with fail
    go_loopw [1, 5] (fun k i wr => wr = w ∧ k = .int .i64 a ∧ i = .int .i64 0) (fun _ _ _ => 0)
    case atStart => exact ⟨rfl, rfl, rfl⟩
    case round =>
      obtain ⟨rfl, rfl, rfl⟩ := hrel
      go_wp2_with fail
      go_ret
      exact ⟨by simp [tot], HS.out, Kept.refl _ _, HK.out⟩
  · obtain ⟨g, c, rfl, hgb, hgl, _⟩ := Kd.S_form h (by omega)
    have HS := Lib.hid h
    have HK := Lib.hid K
    have HR := Lib.hid hr
    clear h K hr hgb hgl
    go_enter Try.func64, Try.ntmps64
    go_wp2_with fail
    go_loopw [1, 5] (fun k i wr => ∃ (j : Nat) (q : Int), j ≤ T.length ∧ k = .int .i64 q ∧ Hid (q = a + (tot (T.take j) : Int)) ∧ i = .int .i64 (j : Int) ∧ Hid (Kd.S (Kd.slice 2 (Kd.int .i64)) 56 wr base ok (.slice (some ⟨g, 0, none⟩) T.length c) (partT a T j)) ∧ Hid (Kept w wr ok) ∧ Hid (Below b0 w0 wr)) (fun _ i _ => T.length - (intOf i).toNat)
    case atStart => exact ⟨0, a, Nat.zero_le _, rfl, by exact Lib.hid (by simp [tot]), rfl, by rw [partT_zero]; exact HS, Lib.hid (Kept.refl _ _), HK⟩
    case round =>
      obtain ⟨j, q, hj, rfl, hq, rfl, hS, hKe, hB⟩ := hrel
      by_cases hlt : j < T.length
      · have b1 : (j : Int) < (T.length : Int) := by omega
        have b2 : (0 : Int) ≤ (j : Int) := by omega
        have b3 : (j : Int) < 1048576 := by omega
        obtain ⟨oki, cc, hcl, hM, hcc, hoki, hbk⟩ := Kd.S_borrow hS.out [] (j : Int) b2 (by omega)
        rw [Int.toNat_natCast, partT_get a T j hlt] at hM
        rw [Int.toNat_natCast] at hcc hbk
        obtain ⟨vi, rfl, hR⟩ := hM
        have hcell := hcc 0 _ rfl
        rw [show (Kd.slice 2 (Kd.int .i64)).sz = 1 from rfl, Nat.mul_one, Nat.add_zero, add_at, Nat.zero_add] at hcell
        obtain ⟨Ai, ci, rfl⟩ := Kd.R_slice hR
        have hlen := HR.out T[j] (List.getElem_mem hlt)
        have htk := tot_take T j
        have hq0 := hq.out
        have hqb : 0 ≤ q ∧ q ≤ 35184372088832 := by omega
        have hqs : q + (T[j].length : Int) = a + (tot (T.take (j + 1)) : Int) := by rw [tot_succ T j hlt]; omega
        have hstep : ∀ (w2 : World), w2.ownsRow base 2 1 (.slice Ai T[j].length ci) T[j].length (encs (Value.int .i64) (marksA q T[j].length)) → wr.grownBy w2 (Value.slice Ai T[j].length ci).ownBlock → Kd.S (Kd.slice 2 (Kd.int .i64)) 56 w2 base ok (.slice (some ⟨g, 0, none⟩) T.length c) (partT a T (j + 1)) ∧ Kept w w2 ok ∧ Below b0 w0 w2 := by
          intro w2 ho hg
          have hin : ∀ k, (Value.slice Ai T[j].length ci).ownBlock = some k → oki k := fun k hk => hR.1 k hk
          refine ⟨?_, Kept.of_grown hg hKe.out (fun k hk => .inl (hoki k (hin k hk)).1), Below.grown hB.out hg (Nat.le_trans hbw hKe.out.1) (fun k hk => Nat.le_trans hb0 (own_base (Kd.own_of_R hR) k hk))⟩
          have := hbk (x' := marksA q T[j].length) hg hin ⟨_, rfl, Kd.R_of_own (by rw [marksA_len]; exact ho) hin⟩
          rw [hq0, partT_set a T j hlt] at this
          exact this
        have HST := Lib.hid hstep
        have HRR := Lib.hid (Kd.own_of_R hR)
        have HQS := Lib.hid hqs
        have hl1 : T[j].length ≤ 1048576 := hlen
        clear hstep hR hcc hbk hq0 hqs hoki hcl hlen htk hq htot htot2 hT ha ha1
        obtain ⟨hq1, hq2⟩ := hqb
        generalize T[j] = t at *
        go_wp2_with (first | (go_at_call 31; refine (mark_ints _ t hl1 q hq1 (by omega) _ base HRR.out).mono ?_; rintro e w2 ⟨rfl, ho, hg⟩; have HN := Lib.hid (HST.out w2 ho hg); clear ho hg) | fail)
        go_roundw
        case rel => exact ⟨j + 1, q + (t.length : Int), hlt, rfl, HQS, by simp, Lib.hid HN.out.1, Lib.hid HN.out.2.1, Lib.hid HN.out.2.2⟩
        case measure => simp [intOf]; omega
      · obtain rfl : j = T.length := by omega
        have hfin := hS.out
        rw [partT_all] at hfin
        have hqf := hq.out
        rw [List.take_length] at hqf
        have HF := Lib.hid hfin
        have HQ := Lib.hid hqf
        clear hfin hqf hS hq
        go_wp2_with fail
        go_ret
        exact ⟨by rw [HQ.out]; rfl, HF.out, hKe.out, hB.out⟩

end Go.Proofs.Ytepilofcionekaa
namespace Go.Proofs.Ytepilofcionekaa.Msh
open Fl Go.RowKit Go.Proofs.YtepilofcionekaaW.PrintWords Go.Proofs.Ytepilofcionekaa.PMesh
set_option linter.unusedVariables false

/-- What is known of a mesh that comes in. -/
structure MeshOk (L : List S122) (T : List (List Int)) : Prop where
  lp : L.length ≤ 9223372036854775807
  lt : T.length ≤ 9223372036854775807
  lr : ∀ t ∈ T, t.length ≤ 9223372036854775807
  fl : ∀ x ∈ L, x.f0 < 4294967296 ∧ x.f1 < 4294967296 ∧ x.f2 < 4294967296

theorem map_ok {L : List S122} (h : ∀ x ∈ L, x.f0 < 4294967296 ∧ x.f1 < 4294967296 ∧ x.f2 < 4294967296) : ∀ x ∈ L.map toV, okV x := by
  intro x hx
  obtain ⟨y, hy, rfl⟩ := List.mem_map.1 hx
  exact h y hy

end Go.Proofs.Ytepilofcionekaa.Msh
namespace Go.Proofs.Ytepilofcionekaa
open Go.RowKit Go.Proofs.YtepilofcionekaaW.PrintWords Go.Proofs.Ytepilofcionekaa.PMesh Msh

end Go.Proofs.Ytepilofcionekaa
namespace Go.Proofs.Ytepilofcionekaa
open Go.RowKit Go.Proofs.YtepilofcionekaaW.PrintWords Go.Proofs.Ytepilofcionekaa.PMesh Msh
set_option linter.unusedVariables false

/-- A mesh of the call's own, its blocks from a up to b. -/
def OwnM (w : World) (a b : Nat) (vP vT : Value) (P : List S42) (T : List (List Int)) : Prop :=
  Kd.R k42 42 w a (In a b) vP P ∧ Kd.S (Kd.slice 2 (Kd.int .i64)) 56 w a (In a b) vT T
/-- A row of numbers of the call's own. -/
def OwnI (w : World) (a b : Nat) (v : Value) (l : List Int) : Prop := Kd.R (Kd.int .i64) 2 w a (In a b) v l
/-- A mesh that came in, as it can be read from w on. -/
def CameM (w : World) (A : Option Addr) (c : Nat) (L : List S122) (B : Option Addr) (e : Nat) (T : List (List Int)) : Prop :=
  Kd.C k122 w A L.length L ∧ L.length ≤ c ∧ Kd.C (Kd.slice 2 (Kd.int .i64)) w B T.length T ∧ T.length ≤ e

section
variable {w w' w0 : World} {a b c d b0 : Nat} {v vP vT : Value} {P : List S42} {T : List (List Int)} {l : List Int}
theorem OwnM.below (h : OwnM w a b vP vT P T) (hb : Below w.heap.size w w') : OwnM w' a b vP vT P T := ⟨Kd.R_below h.1 hb, Kd.S_below h.2 hb⟩
theorem OwnM.drawn (h : OwnM w a b vP vT P T) (hd : Drawn0 w w') : OwnM w' a b vP vT P T := h.below hd.below
theorem OwnM.kept (h : OwnM w a b vP vT P T) (hk : Kept w w' (In c d)) (ho : b ≤ c ∨ d ≤ a) : OwnM w' a b vP vT P T := ⟨Kd.R_kept h.1 hk (In_off ho), Kd.S_kept h.2 hk (In_off ho)⟩
theorem OwnI.below (h : OwnI w a b v l) (hb : Below w.heap.size w w') : OwnI w' a b v l := Kd.R_below h hb
theorem OwnI.drawn (h : OwnI w a b v l) (hd : Drawn0 w w') : OwnI w' a b v l := h.below hd.below
theorem OwnI.kept (h : OwnI w a b v l) (hk : Kept w w' (In c d)) (ho : b ≤ c ∨ d ≤ a) : OwnI w' a b v l := Kd.R_kept h hk (In_off ho)
theorem OwnM.C {A B : Option Addr} {n m e f : Nat} (h : OwnM w a b (.slice A n e) (.slice B m f) P T) : Kd.C k42 w A P.length P ∧ P.length ≤ e ∧ Kd.C (Kd.slice 2 (Kd.int .i64)) w B T.length T ∧ T.length ≤ f := by
  obtain ⟨h1, h2, h3⟩ := Kd.R_reads' h.1
  obtain ⟨h4, h5, h6⟩ := Kd.S_reads' h.2
  exact ⟨h3, by omega, h6, by omega⟩
theorem OwnI.C {A : Option Addr} {n e : Nat} (h : OwnI w a b (.slice A n e) l) : Kd.C (Kd.int .i64) w A l.length l ∧ l.length ≤ e := by
  obtain ⟨h1, h2, h3⟩ := Kd.R_reads' h
  exact ⟨h3, by omega⟩
theorem CameM.below {A B : Option Addr} {c e : Nat} {L : List S122} (h : CameM w A c L B e T) (hb : Below w.heap.size w w') : CameM w' A c L B e T := ⟨Kd.C_below h.1 hb, h.2.1, Kd.C_below h.2.2.1 hb, h.2.2.2⟩
theorem Drawn0.sized (h : Drawn0 w w') : w'.heap.size = w.heap.size := by obtain ⟨m, rfl⟩ := h; rfl
theorem below_then (h : Below b0 w0 w) (hb : Below w.heap.size w w') (hw : b0 ≤ w.heap.size) : Below b0 w0 w' := h.trans (hb.mono hw)
end

/-- A variable that holds a mesh: its block. -/
def BoxAt (W : World) (g : Nat) (t : TypeId) (u v : Value) : Prop := W.heap[g]? = some (.cells #[u, v] t (0, 0))
section
variable {W W' : World} {g c d : Nat} {t : TypeId} {u v : Value}
theorem BoxAt.below (h : BoxAt W g t u v) (hb : Below W.heap.size W W') : BoxAt W' g t u v := (hb.block g (blk_lt h)).trans h
theorem BoxAt.drawn (h : BoxAt W g t u v) (hd : Drawn0 W W') : BoxAt W' g t u v := h.below hd.below
theorem BoxAt.kept (h : BoxAt W g t u v) (hk : Kept W W' (In c d)) (ho : g < c ∨ d ≤ g) : BoxAt W' g t u v := blk_kept h hk (fun hi => by unfold In at hi; omega)
theorem BoxAt.new (W : World) (t : TypeId) (u v : Value) : BoxAt (W.alloc (.cells #[u, v] t)) W.heap.size t u v := heap_alloc_new W _
theorem BoxAt.c0 (h : BoxAt W g t u v) : W.cell? ⟨g, 0, none⟩ = some u := (blk_cell h 0).trans rfl
theorem BoxAt.c1 (h : BoxAt W g t u v) : W.cell? ⟨g, 1, none⟩ = some v := (blk_cell h 1).trans rfl
theorem BoxAt.lt (h : BoxAt W g t u v) : g < W.heap.size := blk_lt h
theorem keep4 {g1 g2 : Nat} {t1 t2 : TypeId} {u1 v1 u2 v2 : Value} {R : World → Prop} (hR : ∀ W W', R W → Below W.heap.size W W' → R W') (hb : Below W.heap.size W W')
    (h : W.cell? ⟨g1, 0, none⟩ = some u1 ∧ W.cell? ⟨g1, 1, none⟩ = some v1 ∧ W.cell? ⟨g2, 0, none⟩ = some u2 ∧ W.cell? ⟨g2, 1, none⟩ = some v2 ∧ BoxAt W g1 t1 u1 v1 ∧ BoxAt W g2 t2 u2 v2 ∧ R W) :
    W'.cell? ⟨g1, 0, none⟩ = some u1 ∧ W'.cell? ⟨g1, 1, none⟩ = some v1 ∧ W'.cell? ⟨g2, 0, none⟩ = some u2 ∧ W'.cell? ⟨g2, 1, none⟩ = some v2 ∧ BoxAt W' g1 t1 u1 v1 ∧ BoxAt W' g2 t2 u2 v2 ∧ R W' := by
  obtain ⟨_, _, _, _, b1, b2, r⟩ := h
  have c1 := b1.below hb
  have c2 := b2.below hb
  exact ⟨c1.c0, c1.c1, c2.c0, c2.c1, c1, c2, hR _ _ r hb⟩
theorem keep4d {g1 g2 : Nat} {t1 t2 : TypeId} {u1 v1 u2 v2 : Value} {R : World → Prop} (hR : ∀ W W', R W → Below W.heap.size W W' → R W')
    (h : W.cell? ⟨g1, 0, none⟩ = some u1 ∧ W.cell? ⟨g1, 1, none⟩ = some v1 ∧ W.cell? ⟨g2, 0, none⟩ = some u2 ∧ W.cell? ⟨g2, 1, none⟩ = some v2 ∧ BoxAt W g1 t1 u1 v1 ∧ BoxAt W g2 t2 u2 v2 ∧ R W) :
    W.drew.cell? ⟨g1, 0, none⟩ = some u1 ∧ W.drew.cell? ⟨g1, 1, none⟩ = some v1 ∧ W.drew.cell? ⟨g2, 0, none⟩ = some u2 ∧ W.drew.cell? ⟨g2, 1, none⟩ = some v2 ∧ BoxAt W.drew g1 t1 u1 v1 ∧ BoxAt W.drew g2 t2 u2 v2 ∧ R W.drew := keep4 hR (Below.drew (Below.refl _ _)) h
theorem rest4 {g1 g2 : Nat} {t1 t2 : TypeId} {u1 v1 u2 v2 : Value} {R : World → Prop}
    (h : W.cell? ⟨g1, 0, none⟩ = some u1 ∧ W.cell? ⟨g1, 1, none⟩ = some v1 ∧ W.cell? ⟨g2, 0, none⟩ = some u2 ∧ W.cell? ⟨g2, 1, none⟩ = some v2 ∧ BoxAt W g1 t1 u1 v1 ∧ BoxAt W g2 t2 u2 v2 ∧ R W) : R W := h.2.2.2.2.2.2
end

/-- Small meshes: what the laws' bound on sizes leaves. -/
def SmallM (L : List S122) (T : List (List Int)) : Prop := L.length ≤ 1048576 ∧ T.length ≤ 1048576 ∧ (∀ t ∈ T, t.length ≤ 1048576)

theorem sz_step (w W : World) (A : Option Addr) (c : Nat) (L : List S122) (B : Option Addr) (e : Nat) (T : List (List Int)) (h : CameM w A c L B e T) (ok : MeshOk L T) (a : Int) (ha : 0 ≤ a) (ha1 : a ≤ 1048576) :
    ∃ r : Int, (0 ≤ r → SmallM L T) ∧ r ≤ 1048576 ∧ ∀ W, Below w.heap.size w W → Calls Try.prog 24 #[.agg #[.slice A L.length c, .slice B T.length e], .int .i64 a] W fun e w' => e = .returned (.int .i64 r) ∧ Below W.heap.size W w' := by
  obtain ⟨r, hr, hr1, hs⟩ := szMesh_f L T ok.lp ok.lt ok.lr 1048578 (by omega) a ha ha1
  refine ⟨r, fun h0 => hs h0, hr1, fun W hb => ?_⟩
  have h' := h.below hb
  exact laws_szMesh.calls 1048578 A c L B e T a r W h'.1 h'.2.1 h'.2.2.1 h'.2.2.2 hr

theorem to_step (w : World) (A : Option Addr) (c : Nat) (L : List S122) (B : Option Addr) (e : Nat) (T : List (List Int)) (h : CameM w A c L B e T) (hs : SmallM L T) (P : List S42) (hP : P = L.map toV) :
    ∀ W, Below w.heap.size w W → Calls Try.prog 26 #[.agg #[.slice A L.length c, .slice B T.length e]] W fun E w' => ∃ A' c' B' e', E = .returned (.agg #[.slice A' P.length c', .slice B' T.length e']) ∧ OwnM w' W.heap.size w'.heap.size (.slice A' P.length c') (.slice B' T.length e') P T ∧ Below W.heap.size W w' ∧ Below w.heap.size w w' := by
  intro W hb
  have h' := h.below hb
  have hf := toMesh_f L T hs.1 hs.2.1 hs.2.2 2097156 (by omega)
  rw [← hP] at hf
  refine (laws_toMesh.calls 2097156 A c L B e T P T W h'.1 h'.2.1 h'.2.2.1 h'.2.2.2 hf).mono ?_
  rintro E w' ⟨v0, v1, rfl, hR, hS, hbw⟩
  obtain ⟨A', c', rfl⟩ := Kd.R_slice hR
  obtain ⟨B', e', rfl⟩ := Kd.S_slice hS
  exact ⟨A', c', B', e', rfl, ⟨R_in hR, S_in hS⟩, hbw, below_then hb hbw hb.size⟩

theorem eq_step (P P' : List S42) (T : List (List Int)) (hp : simP P P') (h1 : P.length ≤ 1048576) (h2 : T.length ≤ 1048576) (h3 : ∀ t ∈ T, t.length ≤ 1048576) (W : World) (A A' B B' : Option Addr) (n n' c c' m m' e e' a b a' b' : Nat)
    (x : OwnM W a b (.slice A P.length c) (.slice B T.length e) P T) (y : OwnM W a' b' (.slice A' P'.length c') (.slice B' T.length e') P' T) :
    Calls Try.prog 21 #[.agg #[.slice A P.length c, .slice B T.length e], .agg #[.slice A' P'.length c', .slice B' T.length e']] W fun E w' => E = .returned (.bool true) ∧ Below W.heap.size W w' :=
  laws_eqMesh.calls 2097156 A c P B e T A' c' P' B' e' T true W x.C.1 x.C.2.1 x.C.2.2.1 x.C.2.2.2 y.C.1 y.C.2.1 y.C.2.2.1 y.C.2.2.2 (eqMesh_f P P' T hp h1 h2 h3 _ (by omega))

theorem eqI_step (l : List Int) (h1 : l.length ≤ 1048576) (W : World) (A A' : Option Addr) (c c' a b a' b' : Nat) (x : OwnI W a b (.slice A l.length c) l) (y : OwnI W a' b' (.slice A' l.length c') l) :
    Calls Try.prog 30 #[.slice A l.length c, .slice A' l.length c'] W fun E w' => E = .returned (.bool true) ∧ Drawn0 W w' :=
  laws_eqInt64S.calls 1048578 A c l A' c' l true W x.C.1 x.C.2 y.C.1 y.C.2 (eqI_f l h1 _ (by omega))

theorem markI_step (l : List Int) (h1 : l.length ≤ 1048576) (q : Int) (hq : 0 ≤ q) (hq1 : q ≤ 1099511627776) (W : World) (A : Option Addr) (c a b : Nat) (x : OwnI W a b (.slice A l.length c) l) (b0 : Nat) (w0 : World) (K : Below b0 w0 W) (hb0 : b0 ≤ a) (hbw : b0 ≤ W.heap.size) :
    Calls Try.prog 31 #[.slice A l.length c, .int .i64 q] W fun E w' => E = .returned (.int .i64 (q + (l.length : Int))) ∧ OwnI w' a b (.slice A l.length c) (marksA q l.length) ∧ Kept W w' (In a b) ∧ Below b0 w0 w' := by
  refine (mark_ints _ l h1 q hq (by omega) W a (Kd.own_of_R x)).mono ?_
  rintro E w' ⟨rfl, ho, hg⟩
  exact ⟨rfl, Kd.R_of_own (by rw [marksA_len]; exact ho) (fun k hk => x.1 k hk), kept_grown hg (fun k hk => x.1 k hk), Below.grown K hg hbw (fun k hk => Nat.le_trans hb0 (x.1 k hk).1)⟩

theorem heldI_step (n : Nat) (h1 : n ≤ 1048576) (q : Int) (hq : 0 ≤ q) (hq1 : q ≤ 1099511627776) (W : World) (A : Option Addr) (c a b : Nat) (x : OwnI W a b (.slice A n c) (marksA q n)) :
    Calls Try.prog 32 #[.slice A n c, .int .i64 q] W fun E w' => E = .returned (.int .i64 (q + (n : Int))) ∧ Drawn0 W w' := by
  have hl := marksA_len q n
  have h := laws_heldInt64S.calls 1048577 A c (marksA q n) q (q + (n : Int)) W x.C.1 x.C.2 (held_fA q hq (by omega) n h1)
  rw [hl] at h
  exact h

theorem own_rebase {w : World} {base base' : Nat} {e : TypeId} {size n : Nat} {v : Value} {xs : List Value} (h : w.ownsRow base e size v n xs) (hb : ∀ k, v.ownBlock = some k → base' ≤ k) : w.ownsRow base' e size v n xs := by
  obtain ⟨h1, h2⟩ := h
  refine ⟨h1, ?_⟩
  rcases h2 with h2 | ⟨g, cap, cur, rfl, hg, r⟩
  · exact .inl h2
  · exact .inr ⟨g, cap, cur, rfl, hb g rfl, r⟩

/-- A vector of three marks. -/
def mkV (q : Int) : S42 := ⟨floatOfInt .f32 q, floatOfInt .f32 (q + 1), floatOfInt .f32 (q + 2)⟩
def marksV (q : Int) (n : Nat) : List S42 := (List.range n).map fun t : Nat => mkV (q + 3 * (t : Int))
theorem marksV_len (q : Int) (n : Nat) : (marksV q n).length = n := by simp [marksV]
theorem marksV_get (q : Int) (n i : Nat) (h : i < (marksV q n).length) : (marksV q n)[i] = mkV (q + 3 * (i : Int)) := by simp [marksV]
def partV (q : Int) (l : List S42) (i : Nat) : List S42 := marksV q i ++ l.drop i
theorem partV_len (q : Int) (l : List S42) (i : Nat) (h : i ≤ l.length) : (partV q l i).length = l.length := by simp [partV, marksV_len]; omega
theorem partV_all (q : Int) (l : List S42) : partV q l l.length = marksV q l.length := by simp [partV]
theorem partV_set (q : Int) (l : List S42) (i : Nat) (h : i < l.length) : (partV q l i).set i (mkV (q + 3 * (i : Int))) = partV q l (i + 1) := by
  have e1 : marksV q (i + 1) = marksV q i ++ [mkV (q + 3 * (i : Int))] := by simp [marksV, List.range_succ]
  have e2 : l.drop i = l[i] :: l.drop (i + 1) := List.drop_eq_getElem_cons h
  have hm : (marksV q i).length = i := marksV_len q i
  unfold partV
  rw [e1, e2, List.set_append, if_neg (by omega), hm, Nat.sub_self, List.set_cons_zero, List.append_assoc]
  rfl
theorem rd_set (Q : List S42) (i : Nat) (h : i < Q.length) (x : S42) : rd_T42 (Q.set i x) (i : Int) = x := by
  rw [rdV _ _ (by rw [List.length_set]; exact h), List.getElem_set_self]

theorem markV_loop (P : List S42) (q : Int) (h0 : 0 ≤ q) (hq : q ≤ 8796093022208) (hP : P.length ≤ 1048576) (d : Nat) : ∀ (k i : Nat), i ≤ P.length → P.length - i = d → d < k → laws_markVectorS.l0 k (partV q P i) (q + 3 * (i : Int)) (i : Int) = some (q + 3 * (P.length : Int), marksV q P.length) := by
  induction d with
  | zero =>
    intro k i hi hd hk
    obtain ⟨k, rfl⟩ : ∃ j, k = j + 1 := ⟨k - 1, by omega⟩
    have hl := partV_len q P i hi
    obtain rfl : i = P.length := by omega
    simp only [laws_markVectorS.l0]
    rw [if_neg (by omega), partV_all]
  | succ d ih =>
    intro k i hi hd hk
    obtain ⟨k, rfl⟩ : ∃ j, k = j + 1 := ⟨k - 1, by omega⟩
    have hl := partV_len q P i hi
    have hil : i < (partV q P i).length := by omega
    simp only [laws_markVectorS.l0]
    rw [if_pos (by omega), if_pos (by omega)]
    simp only [Option.bind_some]
    rw [Msh.wrap_fit (x := q + 3 * (i : Int) + 1) (by omega) (by omega), Msh.wrap_fit (x := q + 3 * (i : Int) + 1 + 1) (by omega) (by omega), Msh.wrap_fit (x := q + 3 * (i : Int) + 1 + 1 + 1) (by omega) (by omega), up i (by omega), Int.toNat_natCast]
    simp only [List.set_set, rd_set _ _ hil]
    have e := ih k (i + 1) (by omega) (by omega) (by omega)
    rw [← partV_set q P i (by omega)] at e
    rw [show q + 3 * (i : Int) + 1 + 1 + 1 = q + 3 * ((i + 1 : Nat) : Int) by omega, show q + 3 * (i : Int) + 1 + 1 = q + 3 * (i : Int) + 2 by omega]
    exact e

theorem markV_step (P : List S42) (h1 : P.length ≤ 1048576) (q : Int) (hq : 0 ≤ q) (hq1 : q ≤ 8796093022208) (W : World) (v : Value) (a b : Nat) (x : Kd.R k42 42 W a (In a b) v P) (w0 : World) (K : Below w0.heap.size w0 W) (hb0 : w0.heap.size ≤ a) :
    Calls Try.prog 63 #[v, .int .i64 q] W fun E w' => E = .returned (.int .i64 (q + 3 * (P.length : Int))) ∧ Kd.R k42 42 w' a (In a b) v (marksV q P.length) ∧ Kept W w' (fun k => some k = v.ownBlock) ∧ Below w0.heap.size w0 w' := by
  have hf := markV_loop P q hq hq1 h1 P.length 1048577 0 (by omega) (by omega) (by omega)
  rw [show q + 3 * ((0 : Nat) : Int) = q by omega, show ((0 : Nat) : Int) = 0 from rfl, show partV q P 0 = P by simp [partV, marksV]] at hf
  have hE : (k42 : Kd S42).E = [] := rfl
  refine (laws_markVectorS.calls 1048577 (fun k => some k = v.ownBlock) v P q (q + 3 * (P.length : Int)) (marksV q P.length) w0 W K (Kd.R_lower (Kd.R_tight hE x) hb0) hf).mono ?_
  rintro E w' ⟨rfl, hR, hB, hK⟩
  refine ⟨rfl, ?_, hK, hB⟩
  refine ⟨x.1, ?_⟩
  obtain ⟨_, inner, ho, hr⟩ := hR
  refine ⟨inner, own_rebase ho (fun k hk => (x.1 k hk).1), hr.imp_ (fun p cs hp => ?_)⟩
  obtain rfl := k42_openM hp
  exact k42_mkM _ _ _ p

set_option maxHeartbeats 1000000 in
theorem markM_step (P : List S42) (T : List (List Int)) (h1 : P.length ≤ 1048576) (h2 : T.length ≤ 1048576) (h3 : ∀ t ∈ T, t.length ≤ 1048576) (q : Int) (hq : 0 ≤ q) (hq1 : q ≤ 4398046511104) (W : World) (A B : Option Addr) (c e a b : Nat) (x : OwnM W a b (.slice A P.length c) (.slice B T.length e) P T) (w0 : World) (K : Below w0.heap.size w0 W) (hb0 : w0.heap.size ≤ a) (hbW : b ≤ W.heap.size) :
    Calls Try.prog 22 #[.agg #[.slice A P.length c, .slice B T.length e], .int .i64 q] W fun E w' => E = .returned (.int .i64 (q + 3 * (P.length : Int) + (tot T : Int))) ∧ OwnM w' a b (.slice A P.length c) (.slice B T.length e) (marksV q P.length) (marksT (q + 3 * (P.length : Int)) T) ∧ Kept W w' (In a b) ∧ Below w0.heap.size w0 w' := by
  obtain ⟨xP, xT⟩ := x
  have hxP : ∀ k, (Value.slice A P.length c).ownBlock = some k → In a b k := fun k hk => xP.1 k hk
  have xT2 : Kd.S (Kd.slice 2 (Kd.int .i64)) 56 W a (fun k => In a b k ∧ some k ≠ (Value.slice A P.length c).ownBlock) (.slice B T.length e) T := by
    exact Kd.S_apart' xT (Kd.R_typed xP) (by decide)
  have H0 := Lib.hid hb0
  have XP := Lib.hid (Kd.R_alloc xP (.cells #[.slice A P.length c, .slice B T.length e] 27))
  have XT := Lib.hid (Kd.S_alloc xT2 (.cells #[.slice A P.length c, .slice B T.length e] 27))
  have K1 := Lib.hid (below_alloc K (.cells #[.slice A P.length c, .slice B T.length e] 27))
  have H3 := Lib.hid h3
  have HQ2 : Hid (q + 3 * (P.length : Int) ≤ 17592186044416) := Lib.hid (by omega)
  have hstep : ∀ w1 : World, Kept (W.alloc (.cells #[.slice A P.length c, .slice B T.length e] 27)) w1 (fun k => some k = (Value.slice A P.length c).ownBlock) → w1.cell? ⟨W.heap.size, 1, none⟩ = some (.slice B T.length e) := fun w1 hk =>
    cell_kept ((blk_cell (heap_alloc_new W _) 1).trans rfl) hk (fun h => by have := hxP _ h.symm; unfold In at this; simp only at this; omega)
  have HST := Lib.hid hstep
  have hfin : ∀ w1 w2 : World, Kept (W.alloc (.cells #[.slice A P.length c, .slice B T.length e] 27)) w1 (fun k => some k = (Value.slice A P.length c).ownBlock) → Kept w1 w2 (fun k => In a b k ∧ some k ≠ (Value.slice A P.length c).ownBlock) → Kept W w2 (In a b) := fun w1 w2 k1 k2 =>
    (((Kept.refl W (In a b)).alloc _).then_ k1 (fun k hk => .inl (hxP k hk.symm))).then_ k2 (fun k hk => .inl hk.1)
  have HF := Lib.hid hfin
  have hbw := K.size
  clear xP xT xT2 K h3 hstep hbw hb0 hfin hxP hbW
  go_enter Try.func22, Try.ntmps22
  go_wp2_with (first | (go_at_call 63; refine (markV_step P h1 q hq (by omega) _ _ a b XP.out w0 K1.out H0.out).mono ?_; rintro E w1 ⟨rfl, hR, hK, hB⟩; have hc1 := HST.out w1 hK; have R1 := Lib.hid hR; have KK1 := Lib.hid hK; have B1 := Lib.hid hB; clear hR hK hB) | (go_at_call 64; refine (mark_rows _ T h2 H3.out _ (by omega) HQ2.out _ a _ _ w0 B1.out H0.out B1.out.size (Kd.S_kept XT.out KK1.out (fun k hk he => hk.2 he))).mono ?_; rintro E w2 ⟨rfl, hS, hK2, hB2⟩; have S2 := Lib.hid hS; have KK2 := Lib.hid hK2; have B2 := Lib.hid hB2; clear hS hK2 hB2) | fail)
  go_ret
  have hE : (k42 : Kd S42).E = [] := rfl
  refine ⟨rfl, ⟨?_, Kd.S_mono S2.out (fun k hk => hk.1)⟩, HF.out _ _ KK1.out KK2.out, B2.out⟩
  exact Kd.R_mono (Kd.R_kept (Kd.R_tight2 hE R1.out) KK2.out (fun k hk hn => hn.2 hk.1)) (fun k hk => hk.2)

end Go.Proofs.Ytepilofcionekaa
namespace Go.Proofs.Ytepilofcionekaa.Mp
open Go.RowKit Go.Maps Go.WideMaps Go.Proofs.YtepilofcionekaaW.PrintWords
open Go.ChangeMaps (setBlock heap_setBlock_same heap_setBlock_other)
set_option linter.unusedVariables false

theorem pos_succ {a b : Nat} (h : a < b) : ∃ m, b = m + 1 := ⟨b - 1, by omega⟩
theorem plainElem_bool_inv {H : Type} {P : Program} {e : TypeId} (he : P.underlying e = some .bool) {v : Value} {z : DataW H × List MemPlace} (h : plainElem P e v = some z) : ∃ x, v = .bool x ∧ z = (.lit (.bool x), []) := by
  unfold plainElem at h
  rw [he] at h
  cases v <;> simp at h
  exact ⟨_, rfl, h.symm⟩
theorem ok_inj {α : Type} {a b : α} {w w' : World} (h : (Result.ok a w : Result α) = .ok b w') : a = b ∧ w = w' := by cases h; exact ⟨rfl, rfl⟩
theorem tup_inj {a b c d : Value} (h : Value.tuple #[a, b] = .tuple #[c, d]) : a = c ∧ b = d := by
  injection h with h
  simpa using h
theorem goInt_inj {a b : Int} (h : goInt a = goInt b) : a = b := by injection h

theorem laid : laidOutB Try.prog = true := by kernel_rfl

theorem e_row : (106 : TypeId) < Try.prog.types.size := of_decide_eq_true (by kernel_rfl)
theorem e_arr : ArrKey Try.prog 106 2 2 := ⟨Try.underlying106, by kernel_rfl, by kernel_rfl, by kernel_rfl⟩
theorem e_wide : (match Try.prog.underlying 106 with | some (.array _ _) | some (.struct _) => true | _ => false) = true := by rw [Try.underlying106]
set_option maxRecDepth 100000 in
theorem e_law : KeyLaw Try.prog 106 := deep_law_laid laid (m := 2) (by omega) e_row (by kernel_rfl) e_wide
theorem e_keyed : Keyed Try.prog 106 := Keyed.of_law e_law
theorem t_size : ∃ m, Try.prog.types.size = m + 1 := pos_succ e_row

/-- The value of an edge. -/
def eval2 (p : Nat × Nat) : Value := .agg #[.int .i64 (p.1 : Int), .int .i64 (p.2 : Int)]
def ekey (p : Nat × Nat) : Lit := .string (keyBytes [.int .i64 (p.1 : Int), .int .i64 (p.2 : Int)])
def Small (p : Nat × Nat) : Prop := p.1 ≤ 1000 ∧ p.2 ≤ 1000
theorem wf_small {x : Nat} (h : x ≤ 1000) : (Lit.int .i64 (x : Int)).wf = true := WalkArith.wf_i64 (by omega)

theorem ekey_mk {p : Nat × Nat} (h : Small p) : keyOf Try.prog 106 (eval2 p) = some (ekey p) := keyOf_pair e_arr Try.underlying2 t_size (wf_small h.1) (wf_small h.2)
theorem ekey_inj {p q : Nat × Nat} (hp : Small p) (hq : Small q) (h : ekey p = ekey q) : p = q := by
  have := e_keyed.inj (ekey_mk hp) (by rw [h]; exact ekey_mk hq)
  unfold eval2 at this
  simp at this
  exact Prod.ext (Int.ofNat.inj this.1) (Int.ofNat.inj this.2)
theorem ekey_lit {p : Nat × Nat} (hp : Small p) : WideAt.IsKeyLit (ekey p) := e_keyed.key (ekey_mk hp)

/-- A kind of plain elements. -/
structure El (e : TypeId) (α : Type) where
  val : α → Value
  lit : α → Lit
  z : α
  ok : α → Prop
  zok : ok z
  mke : ∀ x, ok x → plainElem (H := Unit) Try.prog e (val x) = some (.lit (lit x), [])
  inv : ∀ v x ps, plainElem (H := Unit) Try.prog e v = some (.lit (lit x), ps) → v = val x
  zero : ∀ w, (zeroValue e).run Try.prog w = .ok (val z) w

def elB : El 4 Bool where
  val := Value.bool
  lit := Lit.bool
  z := false
  ok := fun _ => True
  zok := trivial
  mke := fun x _ => plainElem_bool Try.underlying4 x
  inv := fun v x ps h => by
    obtain ⟨y, rfl, h2⟩ := plainElem_bool_inv Try.underlying4 h
    simp at h2
    rw [h2.1]
  zero := fun w => by kernel_rfl

def elI : El 3 Nat where
  val := fun x => .int .i64 (x : Int)
  lit := fun x => .int .i64 (x : Int)
  z := 0
  ok := fun x => x ≤ 1000
  zok := by omega
  mke := fun x h => plainElem_int Try.underlying3 (wf_small h)
  inv := fun v x ps h => by
    obtain ⟨a, rfl, h2, _⟩ := plainElem_int_inv Try.underlying3 h
    simp at h2
    rw [h2.1]
  zero := fun w => by kernel_rfl

section
variable {e : TypeId} {α : Type} (E : El e α)
/-- Block b is a map of at most n entries that holds f. -/
def MapF (w : World) (b n : Nat) (f : Nat × Nat → α) : Prop := ∃ D : DataW Unit, w.ownsMap Try.prog 106 (plainElem Try.prog e) b n D ∧ ∀ p, Small p → D.atKey (ekey p) (.lit (E.lit E.z)) = .lit (E.lit (f p)) ∧ E.ok (f p)
def upd (f : Nat × Nat → α) (p : Nat × Nat) (x : α) (q : Nat × Nat) : α := if q = p then x else f q
variable {E} {w w' : World} {b n : Nat} {f : Nat × Nat → α}
theorem MapF.made (w : World) : MapF E (w.alloc (.map #[] 0)) w.heap.size 0 (fun _ => E.z) := ⟨_, World.ownsMap_made w _ _ _, fun p _ => ⟨rfl, E.zok⟩⟩
theorem MapF.lt (h : MapF E w b n f) : b < w.heap.size := let ⟨_, h1, _⟩ := h; h1.lt
theorem MapF.kept {row : Option Nat} (h : MapF E w b n f) (hg : w.grownBy w' row) (hne : some b ≠ row) : MapF E w' b n f := let ⟨D, h1, h2⟩ := h; ⟨D, h1.kept hg hne, h2⟩
theorem MapF.below (h : MapF E w b n f) (hb : Below w.heap.size w w') : MapF E w' b n f := h.kept (grown_of_below hb none) (by simp)
theorem MapF.look {t : TypeId} (h : MapF E w b n f) (ht : Try.prog.underlying t = some (.map 106 e)) {p : Nat × Nat} (hp : Small p) : (Instr.lookup t (.map (some b)) (eval2 p) false).run Try.prog w = .ok (E.val (f p)) w := by
  obtain ⟨D, h1, h2⟩ := h
  obtain ⟨v, ps, h3, h4⟩ := h1.lookup e_keyed ht (E.zero w) (E.mke _ E.zok) (ekey_mk hp)
  rw [(h2 p hp).1] at h4
  rw [h3, E.inv v _ _ h4]
theorem MapF.put {t : TypeId} (h : MapF E w b n f) (ht : Try.prog.underlying t = some (.map 106 e)) (hn : n < maxLen) {p : Nat × Nat} (hp : Small p) {x : α} (hx : E.ok x) :
    ∃ w1, (Instr.mapUpdate t (.map (some b)) (eval2 p) (E.val x)).run Try.prog w = .ok () w1 ∧ MapF E w1 b (n + 1) (upd f p x) ∧ w.grownBy w1 (some b) := by
  obtain ⟨D, h1, h2⟩ := h
  obtain ⟨w1, h3, h4, h5⟩ := h1.update e_keyed ht hn (ekey_mk hp) (E.mke x hx)
  refine ⟨w1, h3, ⟨_, h4, fun q hq => ?_⟩, h5⟩
  unfold upd
  by_cases hqp : q = p
  · rw [hqp, if_pos rfl]
    exact ⟨atKey_put_same h1.isMap (ekey_lit hp) _ _, hx⟩
  · rw [if_neg hqp]
    refine ⟨?_, (h2 q hq).2⟩
    rw [atKey_put_other (fun he => hqp (ekey_inj hq hp he))]
    exact (h2 q hq).1

open Go.WideElems (Fit rd rg pl entry_then_store set_self) in
theorem entry_world {P : Program} {t k e : TypeId} {R : Value → Option (DataW Unit × List MemPlace)} {es : Array MapEntry} {clock : Nat} (K : KeyLaw P k) (ht : P.underlying t = some (.map k e)) {z : Value} (hz : ∀ u : World, (zeroValue e).run P u = .ok z u) (hb : w.heap[b]? = some (.map es clock)) (F : Fit P k R es clock)
    {key : Value} {kl : Lit} (hkey : keyOf P k key = some kl) : ∃ v0 st w1, (Instr.mapEntry t (.map (some b)) key).run P w = .ok (.tuple #[v0, goInt st]) w1 ∧ (Instr.mapUpdate t (.map (some b)) key v0).run P w = .ok () w1 := by
  rcases K.find w hkey es.toList F.keys with ⟨h1, h2⟩ | ⟨j, e0, h1, h2, h3⟩
  · refine ⟨z, clock, setBlock w b (.map (es.push ⟨key, z, clock⟩) (clock + 1)), ?_, ?_⟩
    · simp [Instr.mapEntry, run_underlying ht, MapKept.run_getObj_map hb, K.check w false hkey, h1, hz, MapKept.run_setObj_map _ hb, Result.andThen, setBlock]
    · simp [Instr.mapUpdate, run_underlying ht, MapKept.run_getObj_map hb, K.check w false hkey, h1, MapKept.run_setObj_map _ hb, Result.andThen, setBlock]
  · have hj : es[j]? = some e0 := by simpa using h2
    have hone : ∀ g : MapEntry → MapEntry, g e0 = e0 → es.modify j g = es := by
      intro g hg
      apply Array.ext'
      rw [Array.toList_modify, ChangeMaps.modify_eq_set _ _ _ _ h2, hg]
      exact set_self _ _ _ h2
    have e1 := hone (fun e => { e with key := key }) (by rw [← h3])
    have e2 := hone (fun e => { e with key := key, val := e0.val }) (by rw [← h3])
    refine ⟨e0.val, e0.born, setBlock w b (.map es clock), ?_, ?_⟩
    · simp [Instr.mapEntry, run_underlying ht, MapKept.run_getObj_map hb, K.check w false hkey, h1, hj, h3, K.stays w hkey, e1, MapKept.run_setObj_map _ hb, Result.andThen, setBlock]
    · simp [Instr.mapUpdate, run_underlying ht, MapKept.run_getObj_map hb, K.check w false hkey, h1, hj, h3, K.stays w hkey, e2, MapKept.run_setObj_map _ hb, Result.andThen, setBlock]

theorem uniq_key : ∀ l : List MapEntry, l.Pairwise (fun x y => x.key ≠ y.key) → ∀ a ∈ l, ∀ b ∈ l, a.key = b.key → a = b
  | [], _, a, ha, _, _, _ => absurd ha (by simp)
  | x :: r, h, a, ha, b, hb, he => by
    obtain ⟨h1, h2⟩ := List.pairwise_cons.1 h
    rcases List.mem_cons.1 ha with rfl | ha'
    · rcases List.mem_cons.1 hb with rfl | hb'
      · rfl
      · exact absurd he (h1 b hb')
    · rcases List.mem_cons.1 hb with rfl | hb'
      · exact absurd he.symm (h1 a ha')
      · exact uniq_key r h2 a ha' b hb' he

open Go.WideElems (Fit rd rg pl entry_then_store set_self) in
/-- 'm[k] op= x' in its parts: the entry made or found; then the store into it. -/
theorem MapF.entry {t : TypeId} (h : MapF E w b n f) (ht : Try.prog.underlying t = some (.map 106 e)) (hn : n + 1 < maxLen) {p : Nat × Nat} (hp : Small p) :
    ∃ v0 st w1, (Instr.mapEntry t (.map (some b)) (eval2 p)).run Try.prog w = .ok (.tuple #[v0, .int .i64 st]) w1 ∧ MapF E w1 b (n + 1) f ∧ w.grownBy w1 (some b) ∧
      ∀ x, E.ok x → ∃ w2, (Instr.entryStore t (.map (some b)) (.int .i64 st) (E.val x)).run Try.prog w1 = .ok () w2 ∧ MapF E w2 b (n + 1) (upd f p x) ∧ w.grownBy w2 (some b) := by
  have h0 := h
  obtain ⟨D, ⟨es, clock, hb, F, hs, hD⟩, h2⟩ := h
  obtain ⟨v0, st, w1, e1, e2⟩ := entry_world e_law ht E.zero hb F (ekey_mk hp)
  obtain ⟨v0', st', es1, clock1, e3, hv, hst⟩ := entry_then_store e_law ht E.zero hb F (ekey_mk hp)
  obtain ⟨e4, e5⟩ := ok_inj (e1.symm.trans e3)
  obtain ⟨rfl, e6⟩ := tup_inj e4
  have e6' := goInt_inj e6
  subst e6'
  have hv0 : v0 = E.val (f p) := by
    have hl := h0.look ht hp
    rcases Maps.fit_look false e_keyed ht (E.zero w) hb F (ekey_mk hp) with ⟨l1, l2, _⟩ | ⟨e0, y, l1, l2, l3, _⟩
    · have hl := (ok_inj (l1.symm.trans hl)).1
      rcases hv with ⟨e0, m1, m2, _⟩ | ⟨_, m2⟩
      · exact absurd m2 (l2 e0 m1)
      · rw [m2, ← hl]; rfl
    · have hl := (ok_inj (l3.symm.trans hl)).1
      rcases hv with ⟨e1, m1, m2, m3⟩ | ⟨m1, _⟩
      · have : e1 = e0 := uniq_key es.toList ((MapKept.stamped_iff es clock).1 F.stamped).2.2 e1 m1 e0 l1 (m2.trans l2.symm)
        rw [m3, this, ← hl]; rfl
      · exact absurd l2 (m1 e0 l1)
  obtain ⟨w1', g1, g2, g3⟩ := h0.put ht (by omega) hp (h2 p hp).2
  rw [← hv0] at g1
  obtain ⟨_, rfl⟩ := ok_inj (e2.symm.trans g1)
  have hsame : ∀ q, upd f p (f p) q = f q := by
    intro q
    unfold upd
    split
    · rename_i hq; rw [hq]
    · rfl
  have hM : MapF E w1 b (n + 1) f := by
    obtain ⟨D1, d1, d2⟩ := g2
    exact ⟨D1, d1, fun q hq => by have := d2 q hq; rwa [hsame] at this⟩
  refine ⟨v0, (st' : Int), w1, e1, hM, g3, fun x hx => ?_⟩
  have hw1 : w1.heap[b]? = some (.map es1 clock1) := by rw [e5]; exact heap_setBlock_same hb _
  obtain ⟨es', clock', k1, k2⟩ := hst w1 (E.val x) hw1
  obtain ⟨w2, p1, p2, p3⟩ := h0.put ht (by omega) hp hx
  have p1 := (ok_inj (k2.symm.trans p1)).2
  refine ⟨_, k1, ?_, ?_⟩
  · obtain ⟨D2, ⟨es2, clock2, r1, r2, r3, r4⟩, d2⟩ := p2
    rw [← p1, heap_setBlock_same hb] at r1
    injection r1 with r1
    injection r1 with r1 r1'
    subst r1
    subst r1'
    exact ⟨D2, ⟨es', clock', heap_setBlock_same hw1 _, r2, r3, r4⟩, d2⟩
  · refine World.grownBy.trans g3 ⟨rfl, rfl, rfl, by simp [setBlock], fun i _ hi => heap_setBlock_other hw1 _ (fun e => hi (by rw [e]))⟩
end

end Go.Proofs.Ytepilofcionekaa.Mp
namespace Go.Proofs.Ytepilofcionekaa.Mp
open Go.RowKit Go.Maps Go.WideMaps Go.Proofs.YtepilofcionekaaW.PrintWords
open Go.ChangeMaps (setBlock heap_setBlock_same heap_setBlock_other)
set_option linter.unusedVariables false

def relV (v : Value) : Option (DataW Value × List MemPlace) := some (.held v, [])
def nilV : Value := .slice none 0 0
theorem held_inj {v u : Value} {ps : List MemPlace} (h : relV v = some (.held u, ps)) : v = u := by
  unfold relV at h
  simp at h
  exact h.1

theorem s_zero (w : World) : (zeroValue 56).run Try.prog w = .ok nilV w := by kernel_rfl
/-- Block b is a map of at most n entries that holds f. -/
def MapV (w : World) (b n : Nat) (f : Nat × Nat → Value) : Prop := ∃ D : DataW Value, w.ownsMap Try.prog 106 relV b n D ∧ ∀ p, Small p → D.atKey (ekey p) (.held nilV) = .held (f p)
section
variable {w w' : World} {b n : Nat} {f : Nat × Nat → Value}
theorem MapV.made (w : World) : MapV (w.alloc (.map #[] 0)) w.heap.size 0 (fun _ => nilV) := ⟨_, World.ownsMap_made w _ _ _, fun p _ => rfl⟩
theorem MapV.lt (h : MapV w b n f) : b < w.heap.size := let ⟨_, h1, _⟩ := h; h1.lt
theorem MapV.kept {row : Option Nat} (h : MapV w b n f) (hg : w.grownBy w' row) (hne : some b ≠ row) : MapV w' b n f := let ⟨D, h1, h2⟩ := h; ⟨D, h1.kept hg hne, h2⟩
theorem MapV.below (h : MapV w b n f) (hb : Below w.heap.size w w') : MapV w' b n f := h.kept (grown_of_below hb none) (by simp)
theorem MapV.same {w' : World} (h : MapV w b n f) (e : w'.heap[b]? = w.heap[b]?) : MapV w' b n f := by
  obtain ⟨D, ⟨es, clock, hb, r⟩, h2⟩ := h
  exact ⟨D, ⟨es, clock, e.trans hb, r⟩, h2⟩
theorem MapV.ne (h : MapV w b n f) {g : Nat} {t : TypeId} {cs : Array Value} (hg : w.heap[g]? = some (.cells cs t (0, 0))) : b ≠ g := by
  rintro rfl
  obtain ⟨D, ⟨es, clock, hb, _⟩, _⟩ := h
  rw [hb] at hg
  cases hg
theorem MapV.look {t : TypeId} (h : MapV w b n f) (ht : Try.prog.underlying t = some (.map 106 56)) {p : Nat × Nat} (hp : Small p) : (Instr.lookup t (.map (some b)) (eval2 p) false).run Try.prog w = .ok (f p) w := by
  obtain ⟨D, h1, h2⟩ := h
  obtain ⟨v, ps, h3, h4⟩ := h1.lookup e_keyed ht (s_zero w) (show relV nilV = some (.held nilV, []) from rfl) (ekey_mk hp)
  rw [h2 p hp] at h4
  rw [h3, held_inj h4]
theorem MapV.put {t : TypeId} (h : MapV w b n f) (ht : Try.prog.underlying t = some (.map 106 56)) (hn : n < maxLen) {p : Nat × Nat} (hp : Small p) (x : Value) :
    ∃ w1, (Instr.mapUpdate t (.map (some b)) (eval2 p) x).run Try.prog w = .ok () w1 ∧ MapV w1 b (n + 1) (upd f p x) ∧ w.grownBy w1 (some b) := by
  obtain ⟨D, h1, h2⟩ := h
  obtain ⟨w1, h3, h4, h5⟩ := h1.update e_keyed ht hn (ekey_mk hp) (show relV x = some (.held x, []) from rfl)
  refine ⟨w1, h3, ⟨_, h4, fun q hq => ?_⟩, h5⟩
  unfold upd
  by_cases hqp : q = p
  · rw [hqp, if_pos rfl]
    exact atKey_put_same h1.isMap (ekey_lit hp) _ _
  · rw [if_neg hqp, atKey_put_other (fun he => hqp (ekey_inj hq hp he))]
    exact h2 q hq

open Go.WideElems (Fit rd rg pl entry_then_store set_self) in
theorem entry_worldV {P : Program} {t k e : TypeId} {R : Value → Option (DataW Value × List MemPlace)} {es : Array MapEntry} {clock : Nat} (K : KeyLaw P k) (ht : P.underlying t = some (.map k e)) {z : Value} (hz : ∀ u : World, (zeroValue e).run P u = .ok z u) (hb : w.heap[b]? = some (.map es clock)) (F : Fit P k R es clock)
    {key : Value} {kl : Lit} (hkey : keyOf P k key = some kl) : ∃ v0 st w1, (Instr.mapEntry t (.map (some b)) key).run P w = .ok (.tuple #[v0, goInt st]) w1 ∧ (Instr.mapUpdate t (.map (some b)) key v0).run P w = .ok () w1 := by
  rcases K.find w hkey es.toList F.keys with ⟨h1, h2⟩ | ⟨j, e0, h1, h2, h3⟩
  · refine ⟨z, clock, setBlock w b (.map (es.push ⟨key, z, clock⟩) (clock + 1)), ?_, ?_⟩
    · simp [Instr.mapEntry, run_underlying ht, MapKept.run_getObj_map hb, K.check w false hkey, h1, hz, MapKept.run_setObj_map _ hb, Result.andThen, setBlock]
    · simp [Instr.mapUpdate, run_underlying ht, MapKept.run_getObj_map hb, K.check w false hkey, h1, MapKept.run_setObj_map _ hb, Result.andThen, setBlock]
  · have hj : es[j]? = some e0 := by simpa using h2
    have hone : ∀ g : MapEntry → MapEntry, g e0 = e0 → es.modify j g = es := by
      intro g hg
      apply Array.ext'
      rw [Array.toList_modify, ChangeMaps.modify_eq_set _ _ _ _ h2, hg]
      exact set_self _ _ _ h2
    have e1 := hone (fun e => { e with key := key }) (by rw [← h3])
    have e2 := hone (fun e => { e with key := key, val := e0.val }) (by rw [← h3])
    refine ⟨e0.val, e0.born, setBlock w b (.map es clock), ?_, ?_⟩
    · simp [Instr.mapEntry, run_underlying ht, MapKept.run_getObj_map hb, K.check w false hkey, h1, hj, h3, K.stays w hkey, e1, MapKept.run_setObj_map _ hb, Result.andThen, setBlock]
    · simp [Instr.mapUpdate, run_underlying ht, MapKept.run_getObj_map hb, K.check w false hkey, h1, hj, h3, K.stays w hkey, e2, MapKept.run_setObj_map _ hb, Result.andThen, setBlock]

open Go.WideElems (Fit rd rg pl entry_then_store set_self) in
/-- 'm[k] op= x' in its parts: the entry made or found; then, in any world that has kept the map, the store into it. -/
theorem MapV.entry {t : TypeId} (h : MapV w b n f) (ht : Try.prog.underlying t = some (.map 106 56)) (hn : n + 1 < maxLen) {p : Nat × Nat} (hp : Small p) :
    ∃ st w1, (Instr.mapEntry t (.map (some b)) (eval2 p)).run Try.prog w = .ok (.tuple #[f p, .int .i64 st]) w1 ∧ MapV w1 b (n + 1) f ∧ w.grownBy w1 (some b) ∧
      ∀ W x, W.heap[b]? = w1.heap[b]? → ∃ W2, (Instr.entryStore t (.map (some b)) (.int .i64 st) x).run Try.prog W = .ok () W2 ∧ MapV W2 b (n + 1) (upd f p x) ∧ W.grownBy W2 (some b) := by
  have h0 := h
  obtain ⟨D, ⟨es, clock, hb, F, hs, hD⟩, h2⟩ := h
  obtain ⟨v0, st, w1, e1, e2⟩ := entry_worldV e_law ht s_zero hb F (ekey_mk hp)
  obtain ⟨v0', st', es1, clock1, e3, hv, hst⟩ := entry_then_store e_law ht s_zero hb F (ekey_mk hp)
  obtain ⟨e4, e5⟩ := ok_inj (e1.symm.trans e3)
  obtain ⟨rfl, e6⟩ := tup_inj e4
  have e6' := goInt_inj e6
  subst e6'
  have hv0 : v0 = f p := by
    have hl := h0.look ht hp
    rcases Maps.fit_look false e_keyed ht (s_zero w) hb F (ekey_mk hp) with ⟨l1, l2, _⟩ | ⟨e0, y, l1, l2, l3, _⟩
    · have hl := (ok_inj (l1.symm.trans hl)).1
      rcases hv with ⟨e0, m1, m2, _⟩ | ⟨_, m2⟩
      · exact absurd m2 (l2 e0 m1)
      · rw [m2, ← hl]; rfl
    · have hl := (ok_inj (l3.symm.trans hl)).1
      rcases hv with ⟨e1, m1, m2, m3⟩ | ⟨m1, _⟩
      · have : e1 = e0 := uniq_key es.toList ((MapKept.stamped_iff es clock).1 F.stamped).2.2 e1 m1 e0 l1 (m2.trans l2.symm)
        rw [m3, this, ← hl]; rfl
      · exact absurd l2 (m1 e0 l1)
  obtain ⟨w1', g1, g2, g3⟩ := h0.put ht (by omega) hp (f p)
  rw [hv0] at e1 e2
  obtain ⟨_, rfl⟩ := ok_inj (e2.symm.trans g1)
  have hsame : upd f p (f p) = f := by
    funext q
    unfold upd
    split
    · rename_i hq; rw [hq]
    · rfl
  rw [hsame] at g2
  refine ⟨(st' : Int), w1, e1, g2, g3, fun W x hW => ?_⟩
  have hw1 : w1.heap[b]? = some (.map es1 clock1) := by rw [e5]; exact heap_setBlock_same hb _
  have hWb : W.heap[b]? = some (.map es1 clock1) := hW.trans hw1
  obtain ⟨es', clock', k1, k2⟩ := hst W x hWb
  obtain ⟨w2, p1, p2, p3⟩ := h0.put ht (by omega) hp x
  have p1 := (ok_inj (k2.symm.trans p1)).2
  refine ⟨_, k1, ?_, ⟨rfl, rfl, rfl, by simp [setBlock], fun i _ hi => heap_setBlock_other hWb _ (fun e => hi (by rw [e]))⟩⟩
  obtain ⟨D2, ⟨es2, clock2, r1, r2, r3, r4⟩, d2⟩ := p2
  rw [← p1, heap_setBlock_same hb] at r1
  injection r1 with r1
  injection r1 with r1 r1'
  subst r1
  subst r1'
  exact ⟨D2, ⟨es', clock', heap_setBlock_same hWb _, r2, r3, r4⟩, d2⟩

/-- The map at b holds rows of its own, as long as f says. -/
def MapR (w : World) (base b n : Nat) (f : Nat × Nat → Nat) : Prop := ∃ vals : Nat × Nat → Value, MapV w b n vals ∧ (∀ p, Small p → ∃ xs, w.ownsRow base 2 1 (vals p) (f p) xs) ∧ ∀ p q k, Small p → Small q → (vals p).ownBlock = some k → (vals q).ownBlock = some k → p = q
theorem MapR.made (w : World) (base : Nat) : MapR (w.alloc (.map #[] 0)) base w.heap.size 0 (fun _ => 0) := ⟨_, MapV.made w, fun p _ => ⟨[], World.ownsRow_nil _ _ _ _⟩, fun p q k _ _ h => by simp [nilV, Value.ownBlock] at h⟩
theorem own_slice {base m : Nat} {e : TypeId} {v : Value} {xs : List Value} (h : w.ownsRow base e 1 v m xs) : ∃ A c, v = .slice A m c := by
  rcases h.2 with ⟨rfl, rfl⟩ | ⟨g, cap, cur, rfl, _⟩
  · exact ⟨none, 0, rfl⟩
  · exact ⟨_, _, rfl⟩
variable {base : Nat} {F : Nat × Nat → Nat}
theorem MapR.lt (h : MapR w base b n F) : b < w.heap.size := let ⟨_, h1, _⟩ := h; h1.lt
theorem MapR.ne (h : MapR w base b n F) {g : Nat} {t : TypeId} {cs : Array Value} (hg : w.heap[g]? = some (.cells cs t (0, 0))) : b ≠ g := let ⟨_, h1, _⟩ := h; h1.ne hg
theorem MapR.below (h : MapR w base b n F) (hb : Below w.heap.size w w') : MapR w' base b n F := by
  obtain ⟨vals, h1, h2, h3⟩ := h
  refine ⟨vals, h1.below hb, fun p hp => ?_, h3⟩
  obtain ⟨xs, h⟩ := h2 p hp
  exact ⟨xs, h.kept (grown_of_below hb none) (by cases hv : (vals p).ownBlock <;> simp)⟩
/-- A block that holds other things is written. -/
theorem MapR.kept {g : Nat} {t : TypeId} {cs : Array Value} (h : MapR w base b n F) (hg : w.grownBy w' (some g)) (hc : w.heap[g]? = some (.cells cs t (0, 0))) (ht : t ≠ 2) : MapR w' base b n F := by
  obtain ⟨vals, h1, h2, h3⟩ := h
  refine ⟨vals, h1.kept hg (fun e => h1.ne hc (by injection e)), fun p hp => ?_, h3⟩
  obtain ⟨xs, h⟩ := h2 p hp
  refine ⟨xs, h.kept hg ?_⟩
  rcases h.2 with ⟨e, _⟩ | ⟨g', cap, cur, e, _, hgg, _⟩
  · exact .inl (by rw [e]; rfl)
  · refine .inr ?_
    rw [e]
    intro h'
    injection h' with h'
    have h' : g' = g := h'
    rw [h', hc] at hgg
    injection hgg with hgg
    injection hgg with _ h5
    exact ht h5
theorem MapR.look {t : TypeId} (h : MapR w base b n F) (ht : Try.prog.underlying t = some (.map 106 56)) {p : Nat × Nat} (hp : Small p) : ∃ A c, (Instr.lookup t (.map (some b)) (eval2 p) false).run Try.prog w = .ok (.slice A (F p) c) w := by
  obtain ⟨vals, h1, h2, _⟩ := h
  obtain ⟨xs, h⟩ := h2 p hp
  obtain ⟨A, c, e⟩ := own_slice h
  exact ⟨A, c, by rw [h1.look ht hp, e]⟩
theorem int_info : (Try.prog.info? 2).map (fun i => (i.zero, i.size, i.bytes)) = some (some (Value.int IntKind.i64 0), 1, 8) := PMesh.info2
theorem edge_info : (Try.prog.info? 106).map (fun i => (i.zero, i.size, i.bytes)) = some (some (Value.agg #[Value.int IntKind.i64 0, Value.int IntKind.i64 0]), 2, 16) := by kernel_rfl

/-- 'm[k] = append(m[k], x)' in its parts. -/
theorem MapR.push {t : TypeId} (ty : TypeId) (h : MapR w base b n F) (ht : Try.prog.underlying t = some (.map 106 56)) (hn : n + 1 < maxLen) {p : Nat × Nat} (hp : Small p) (hF : F p ≤ 1000000) (hbase : base ≤ w.heap.size) {g : Nat} {x : Int} {cs : Array Value} {e : TypeId} (hg : w.heap[g]? = some (.cells cs e (0, 0))) (hx : w.cell? ⟨g, 0, none⟩ = some (.int .i64 x)) :
    ∃ v0 st w1 v1 w2 w3, (Instr.mapEntry t (.map (some b)) (eval2 p)).run Try.prog w = .ok (.tuple #[v0, .int .i64 st]) w1 ∧
      (Builtin.append_ #[56, 56] ty #[v0, .slice (some ⟨g, 0, none⟩) 1 1]).run Try.prog w1 = .ok v1 w2 ∧
      (Instr.entryStore t (.map (some b)) (.int .i64 st) v1).run Try.prog w2 = .ok () w3 ∧ MapR w3 base b (n + 1) (upd F p (F p + 1)) ∧
      w3.os = w.os ∧ w3.tape = w.tape ∧ w3.output = w.output ∧ w.heap.size ≤ w3.heap.size ∧ ∀ k, k < w.heap.size → k ≠ b → (k < base ∨ ∃ cs t, t ≠ 2 ∧ w.heap[k]? = some (.cells cs t (0, 0))) → w3.heap[k]? = w.heap[k]? := by
  obtain ⟨vals, h1, h2, h3⟩ := h
  obtain ⟨st, w1, r1, m1, g1, hS⟩ := h1.entry ht hn hp
  obtain ⟨xs, hown⟩ := h2 p hp
  have hown1 : w1.ownsRow base 2 1 (vals p) (F p) xs := hown.kept g1 (by
    rcases hown.2 with ⟨e, _⟩ | ⟨g', cap, cur, e, _, hgg, _⟩
    · exact .inl (by rw [e]; rfl)
    · refine .inr ?_
      rw [e]
      intro h'
      injection h' with h'
      exact h1.ne hgg h'.symm)
  have hx1 : w1.cell? ⟨g, 0, none⟩ = some (.int .i64 x) := g1.cell hx (fun e => h1.ne hg (show b = g from (Option.some.inj e).symm))
  obtain ⟨i0, hi, hzz⟩ := Option.map_eq_some_iff.1 int_info
  simp only [Prod.mk.injEq] at hzz
  obtain ⟨hz0, hz1, hz2⟩ := hzz
  obtain ⟨v1, w2, r2, hown2, g2, _, hat⟩ := run_append_own_at (P := Try.prog) w1 base 56 ty 2 i0 (.int .i64 0) 1 8 Try.underlying56 hi hz0 hz1 hz2 rfl (by omega) (vals p) (F p) xs hown1 ⟨g, 0, none⟩ 1 1 [.int .i64 x] rfl
    (by intro j u hu; rcases j with _ | j
        · simp at hu; subst hu; rw [Addr.add_zero']; exact hx1
        · simp at hu) (by intro u hu; simp at hu; subst hu; rfl) (by simp only [maxLen]; omega) (by omega) (Nat.le_trans hbase g1.size)
  have hbn : (vals p).ownBlock ≠ some b := by
    rcases hown.2 with ⟨e, _⟩ | ⟨g', cap, cur, e, _, hgg, _⟩
    · rw [e]; simp [Value.ownBlock]
    · rw [e]; intro h'; injection h' with h'; exact h1.ne hgg h'.symm
  have hb2 : w2.heap[b]? = w1.heap[b]? := g2.block b m1.lt (fun e => hbn e.symm)
  obtain ⟨w3, r3, m3, g3⟩ := hS w2 v1 hb2
  have hv1b : v1.ownBlock ≠ some b := by
    rcases hat with hat | hat
    · rw [hat]; exact hbn
    · rw [hat]; intro h'; injection h' with h'; have := m1.lt; omega
  refine ⟨vals p, st, w1, v1, w2, w3, r1, r2, r3, ⟨upd vals p v1, m3, fun q hq => ?_, fun q q' k hq hq' hk hk' => ?_⟩, g3.os.trans (g2.os.trans g1.os), g3.tape.trans (g2.tape.trans g1.tape), g3.output.trans (g2.output.trans g1.output), Nat.le_trans g1.size (Nat.le_trans g2.size g3.size), fun k hk hkb hkk => ?_⟩
  · unfold upd
    by_cases hqp : q = p
    · rw [if_pos hqp, if_pos hqp]
      exact ⟨_, hown2.kept g3 (by
        cases hv : v1.ownBlock with
        | none => exact .inl rfl
        | some k => exact .inr (fun e => hv1b (by rw [hv, e])))⟩
    · rw [if_neg hqp, if_neg hqp]
      obtain ⟨ys, hq2⟩ := h2 q hq
      have hqb : (vals q).ownBlock ≠ some b := by
        rcases hq2.2 with ⟨e, _⟩ | ⟨g', cap, cur, e, _, hgg, _⟩
        · rw [e]; simp [Value.ownBlock]
        · rw [e]; intro h'; injection h' with h'; exact h1.ne hgg h'.symm
      have k1 : w1.ownsRow base 2 1 (vals q) (F q) ys := hq2.kept g1 (by
        cases hv : (vals q).ownBlock with
        | none => exact .inl rfl
        | some k => exact .inr (fun e => hqb (by rw [hv, e])))
      have k2 : w2.ownsRow base 2 1 (vals q) (F q) ys := k1.kept g2 (by
        cases hv : (vals q).ownBlock with
        | none => exact .inl rfl
        | some k => exact .inr (fun e => hqp (h3 q p k hq hp hv e.symm)))
      exact ⟨ys, k2.kept g3 (by
        cases hv : (vals q).ownBlock with
        | none => exact .inl rfl
        | some k => exact .inr (fun e => hqb (by rw [hv, e])))⟩
  · have hold : ∀ q, Small q → ∀ k, (vals q).ownBlock = some k → k < w1.heap.size := by
      intro q hq k hk
      obtain ⟨ys, hq2⟩ := h2 q hq
      exact Nat.lt_of_lt_of_le (hq2.lt k hk).2 g1.size
    unfold upd at hk hk'
    by_cases e : q = p
    · by_cases e' : q' = p
      · rw [e, e']
      · rw [if_pos e] at hk
        rw [if_neg e'] at hk'
        rcases hat with hat | hat
        · rw [hat] at hk
          rw [e]
          exact h3 p q' k hp hq' hk hk'
        · rw [hat] at hk
          have hk := Option.some.inj hk
          have := hold q' hq' k hk'
          omega
    · rw [if_neg e] at hk
      by_cases e' : q' = p
      · rw [if_pos e'] at hk'
        rcases hat with hat | hat
        · rw [hat] at hk'
          rw [e']
          exact h3 q p k hq hp hk hk'
        · rw [hat] at hk'
          have hk' := Option.some.inj hk'
          have := hold q hq k hk
          omega
      · rw [if_neg e'] at hk'
        exact h3 q q' k hq hq' hk hk'
  · have hkv : some k ≠ (vals p).ownBlock := by
      intro hv
      rcases hkk with hlt | ⟨cs', t', ht', hc'⟩
      · have := (hown.lt k hv.symm).1
        omega
      · rcases hown.2 with ⟨e, _⟩ | ⟨g', cap, cur, e, _, hgg, _⟩
        · rw [e] at hv; simp [Value.ownBlock] at hv
        · rw [e] at hv
          injection hv with hv
          have hv : k = g' := hv
          rw [hv, hgg] at hc'
          injection hc' with hc'
          injection hc' with _ h5
          exact ht' h5.symm
    rw [g3.block k (Nat.lt_of_lt_of_le hk (Nat.le_trans g1.size g2.size)) (by intro e; injection e with e; exact hkb e), g2.block k (Nat.lt_of_lt_of_le hk g1.size) hkv, g1.block k hk (by intro e; injection e with e; exact hkb e)]
end

end Go.Proofs.Ytepilofcionekaa.Mp
namespace Go.Proofs.Ytepilofcionekaa.Msh
open Fl Go.RowKit Go.Proofs.YtepilofcionekaaW.PrintWords Go.Proofs.Ytepilofcionekaa.PMesh
set_option linter.unusedVariables false

def hasAll (ps : List Int) (t : List Int) : Bool := ps.all fun p => t.contains p
/-- The numbers, from i on, of those triangles that have all of some places. -/
def withL (ps : List Int) : Nat → List (List Int) → List Int
  | _, [] => []
  | i, t :: r => if hasAll ps t = true then (i : Int) :: withL ps (i + 1) r else withL ps (i + 1) r

theorem withL_len (ps : List Int) (T : List (List Int)) : ∀ i, (withL ps i T).length ≤ T.length := by
  induction T with
  | nil => intro i; simp [withL]
  | cons t r ih => intro i; have := ih (i + 1); unfold withL; split <;> simp <;> omega

theorem hasAll_two (a b : Int) (t : List Int) : hasAll [a, b] t = (t.contains a && t.contains b) := by simp [hasAll]

theorem all3 {n : Nat} {T : List (List Int)} (h : T.all (triB n) = true) : ∀ t ∈ T, t.length = 3 := fun t ht => triB_len (List.all_eq_true.1 h t ht)
theorem validB_iff {n : Nat} {T : List (List Int)} : validB n T = true ↔ n ≤ 64 ∧ T.length ≤ 128 ∧ T.all (triB n) = true := by simp [validB, and_assoc]

theorem has_f (t : List Int) (h : t.length = 3) (p : Int) : spec_l02Has.f t p = some (t.contains p) := by
  obtain ⟨a, b, c, rfl⟩ := tri3 h
  unfold spec_l02Has.f
  simp only [rd3_0, rd3_1, rd3_2, List.length_cons, List.length_nil]
  by_cases e0 : a = p
  · simp [e0]
  · by_cases e1 : b = p
    · simp [e0, e1]
    · by_cases e2 : c = p
      · simp [e0, e1, e2]
      · have e0' : ¬ p = a := fun h => e0 h.symm
        have e1' : ¬ p = b := fun h => e1 h.symm
        have e2' : ¬ p = c := fun h => e2 h.symm
        simp [e0, e1, e2, e0', e1', e2']

theorem at_loop (Q : List S42) (T : List (List Int)) (hT : T.length ≤ 128) (h3 : ∀ t ∈ T, t.length = 3) (a b : Int) (d : Nat) : ∀ (k i : Nat) (out : List Int), i ≤ T.length → T.length - i = d → out.length ≤ i → d < k → spec_l02At.l0 k a b out (i : Int) Q T = some (out ++ withL [a, b] i (T.drop i)) := by
  induction d with
  | zero =>
    intro k i out hi hd ho hk
    obtain ⟨k, rfl⟩ : ∃ j, k = j + 1 := ⟨k - 1, by omega⟩
    simp only [spec_l02At.l0]
    rw [if_neg (by omega), List.drop_of_length_le (by omega)]
    simp [withL]
  | succ d ih =>
    intro k i out hi hd ho hk
    obtain ⟨k, rfl⟩ : ∃ j, k = j + 1 := ⟨k - 1, by omega⟩
    have hil : i < T.length := by omega
    have e : T.drop i = T[i] :: T.drop (i + 1) := List.drop_eq_getElem_cons hil
    have hl3 := h3 _ (List.getElem_mem hil)
    simp only [spec_l02At.l0]
    rw [if_pos (by omega), if_pos (by omega), rdL T i hil, has_f _ hl3, e]
    simp only [Option.bind_some, withL]
    rw [hasAll_two, has_f _ hl3]
    simp only [Option.bind_some]
    by_cases ha : T[i].contains a = true
    · rw [if_pos ha]
      by_cases hb : T[i].contains b = true
      · rw [if_pos hb, if_pos (by omega), if_pos (by rw [ha, hb]; rfl), up i (by omega), ih k (i + 1) _ (by omega) (by omega) (by simp; omega) (by omega), List.append_assoc]
        rfl
      · rw [if_neg hb, if_neg (by simp only [ha, Bool.true_and]; exact hb), up i (by omega), ih k (i + 1) _ (by omega) (by omega) (by omega) (by omega)]
    · rw [if_neg ha, if_neg (by rw [Bool.eq_false_iff.2 ha]; simp), up i (by omega), ih k (i + 1) _ (by omega) (by omega) (by omega) (by omega)]

theorem at_f (Q : List S42) (T : List (List Int)) (hv : validB Q.length T = true) (a b : Int) : spec_l02At.f 200 Q T a b = some (withL [a, b] 0 T) := by
  obtain ⟨_, h2, h3⟩ := validB_iff.1 hv
  unfold spec_l02At.f
  have := at_loop Q T h2 (all3 h3) a b T.length 200 0 [] (by omega) (by omega) (by simp) (by omega)
  rw [show ((0 : Nat) : Int) = 0 from rfl] at this
  rw [this]
  simp

end Go.Proofs.Ytepilofcionekaa.Msh
namespace Go.Proofs.Ytepilofcionekaa.Msh
open Fl Go.RowKit Go.Proofs.YtepilofcionekaaW.PrintWords Go.Proofs.Ytepilofcionekaa.PMesh
set_option linter.unusedVariables false

/-- The three tways of a triangle. -/
def ways3 (t : List Int) : List (Nat × Nat) := [((rd t 0).toNat, (rd t 1).toNat), ((rd t 1).toNat, (rd t 2).toNat), ((rd t 2).toNat, (rd t 0).toNat)]
def tways (T : List (List Int)) : List (Nat × Nat) := T.flatMap ways3
/-- A way's edge. -/
def edgeN (p : Nat × Nat) : Nat × Nat := (min p.1 p.2, max p.1 p.2)
theorem ways_snoc (T : List (List Int)) (t : List Int) : tways (T ++ [t]) = tways T ++ ways3 t := by simp [tways]
theorem ways3_nat (a b c : Nat) : ways3 [(a : Int), (b : Int), (c : Int)] = [(a, b), (b, c), (c, a)] := by simp [ways3, rd3_0, rd3_1, rd3_2]
theorem ways3_len (t : List Int) : (ways3 t).length = 3 := rfl
theorem ways_len (T : List (List Int)) : (tways T).length = 3 * T.length := by
  induction T with
  | nil => rfl
  | cons t r ih => simp only [tways, List.flatMap_cons, List.length_append, ways3_len] at ih ⊢; rw [ih, List.length_cons]; omega

theorem tri_natE {n : Nat} {t : List Int} (h : triB n t = true) : ∃ a b c : Nat, t = [(a : Int), (b : Int), (c : Int)] ∧ a < n ∧ b < n ∧ c < n ∧ a ≠ b ∧ b ≠ c ∧ a ≠ c := by
  obtain ⟨x, y, z, rfl⟩ := tri3 (triB_len h)
  rw [triB_rd n _ rfl] at h
  simp [inB, rd3_0, rd3_1, rd3_2] at h
  have e1 := of_decide_eq_true h.1.1.1; have e2 := of_decide_eq_true h.1.1.2; have e3 := of_decide_eq_true h.1.2
  exact ⟨x.toNat, y.toNat, z.toNat, by rw [Int.toNat_of_nonneg (show 0 ≤ x by omega), Int.toNat_of_nonneg (show 0 ≤ y by omega), Int.toNat_of_nonneg (show 0 ≤ z by omega)], by omega, by omega, by omega, by omega, by omega, by omega⟩
theorem valid_triE {n : Nat} {T : List (List Int)} (h : validB n T = true) (t : List Int) (ht : t ∈ T) : triB n t = true := List.all_eq_true.1 (validB_iff.1 h).2.2 t ht

theorem ways_lt {n : Nat} {T : List (List Int)} (h : T.all (triB n) = true) : ∀ p ∈ tways T, p.1 < n ∧ p.2 < n ∧ p.1 ≠ p.2 := by
  intro p hp
  obtain ⟨t, ht, hp⟩ := List.mem_flatMap.1 hp
  obtain ⟨a, b, c, rfl, ha, hb, hc, e1, e2, e3⟩ := tri_natE (List.all_eq_true.1 h t ht)
  rw [ways3_nat] at hp
  simp only [List.mem_cons, List.not_mem_nil, or_false] at hp
  rcases hp with rfl | rfl | rfl
  · exact ⟨ha, hb, e1⟩
  · exact ⟨hb, hc, e2⟩
  · exact ⟨hc, ha, fun h => e3 h.symm⟩

/-- Whether some triangle has two places. -/
def isE (T : List (List Int)) (a b : Nat) : Bool := T.any fun t => t.contains (a : Int) && t.contains (b : Int)
theorem mem_edges {n : Nat} {T : List (List Int)} (h : T.all (triB n) = true) {a b : Nat} (hab : a < b) : (a, b) ∈ (tways T).map edgeN ↔ isE T a b = true := by
  unfold isE tways
  rw [List.any_eq_true, List.map_flatMap, List.mem_flatMap]
  constructor
  · rintro ⟨t, ht, hp⟩
    refine ⟨t, ht, ?_⟩
    obtain ⟨x, y, z, rfl, _⟩ := tri_natE (List.all_eq_true.1 h t ht)
    rw [ways3_nat] at hp
    simp only [List.map_cons, List.map_nil, edgeN, List.mem_cons, List.not_mem_nil, or_false, Prod.mk.injEq] at hp
    simp only [List.contains_cons, List.contains_nil, Bool.or_false, Bool.and_eq_true, Bool.or_eq_true, beq_iff_eq]
    omega
  · rintro ⟨t, ht, hp⟩
    refine ⟨t, ht, ?_⟩
    obtain ⟨x, y, z, rfl, _⟩ := tri_natE (List.all_eq_true.1 h t ht)
    rw [ways3_nat]
    simp only [List.contains_cons, List.contains_nil, Bool.or_false, Bool.and_eq_true, Bool.or_eq_true, beq_iff_eq] at hp
    simp only [List.map_cons, List.map_nil, edgeN, List.mem_cons, List.not_mem_nil, or_false, Prod.mk.injEq]
    omega

/-- The edges from a on, and all. -/
def edgesA (n : Nat) (T : List (List Int)) (a : Nat) : List (List Int) := ((List.range n).filter fun b => decide (a < b) && isE T a b).map fun b : Nat => ([(a : Int), (b : Int)] : List Int)
def edgesL (n : Nat) (T : List (List Int)) : List (List Int) := (List.range n).flatMap (edgesA n T)
/-- The same, as pairs of numbers. -/
def edgesP (n : Nat) (T : List (List Int)) : List (Nat × Nat) := (List.range n).flatMap fun a => ((List.range n).filter fun b => decide (a < b) && isE T a b).map fun b => (a, b)
theorem edgesL_P (n : Nat) (T : List (List Int)) : edgesL n T = (edgesP n T).map fun p => [(p.1 : Int), (p.2 : Int)] := by
  unfold edgesL edgesP edgesA
  rw [List.map_flatMap]
  congr 1
  funext a
  rw [List.map_map]
  rfl
theorem mem_edgesP {n : Nat} {T : List (List Int)} {p : Nat × Nat} : p ∈ edgesP n T ↔ p.1 < n ∧ p.2 < n ∧ p.1 < p.2 ∧ isE T p.1 p.2 = true := by
  unfold edgesP
  rw [List.mem_flatMap]
  constructor
  · rintro ⟨a, ha, hp⟩
    rw [List.mem_map] at hp
    obtain ⟨b, hb, rfl⟩ := hp
    rw [List.mem_filter] at hb
    simp at ha hb
    exact ⟨ha, hb.1, hb.2.1, hb.2.2⟩
  · rintro ⟨h1, h2, h3, h4⟩
    refine ⟨p.1, by simp [h1], ?_⟩
    rw [List.mem_map]
    exact ⟨p.2, by rw [List.mem_filter]; simp [h2, h3, h4], rfl⟩
theorem nodup_range (n : Nat) : (List.range n).Nodup := List.nodup_range
theorem edgesP_nodup (n : Nat) (T : List (List Int)) : (edgesP n T).Nodup := by
  unfold edgesP
  rw [List.nodup_iff_pairwise_ne, List.pairwise_flatMap]
  refine ⟨fun a _ => ?_, ?_⟩
  · rw [List.pairwise_map]
    refine List.Pairwise.imp ?_ (List.nodup_iff_pairwise_ne.1 ((nodup_range n).filter _))
    intro x y h e
    exact h (Prod.mk.inj e).2
  · refine List.Pairwise.imp ?_ (List.nodup_iff_pairwise_ne.1 (nodup_range n))
    intro a b hab p hp q hq e
    rw [List.mem_map] at hp hq
    obtain ⟨x, _, rfl⟩ := hp
    obtain ⟨y, _, rfl⟩ := hq
    exact hab (Prod.mk.inj e).1
theorem edges_iff {n : Nat} {T : List (List Int)} (h : T.all (triB n) = true) (p : Nat × Nat) : p ∈ edgesP n T ↔ p ∈ (tways T).map edgeN := by
  rw [mem_edgesP]
  constructor
  · rintro ⟨h1, h2, h3, h4⟩
    exact (mem_edges h h3).2 h4
  · intro hp
    obtain ⟨q, hq, rfl⟩ := List.mem_map.1 hp
    obtain ⟨h1, h2, h3⟩ := ways_lt h q hq
    have h4 : (edgeN q).1 < (edgeN q).2 := by unfold edgeN; simp only; omega
    exact ⟨by unfold edgeN; simp only; omega, by unfold edgeN; simp only; omega, h4, (mem_edges h h4).1 hp⟩
theorem edgesP_len {n : Nat} (hn : n ≤ 64) (T : List (List Int)) : (edgesP n T).length ≤ 4096 := by
  unfold edgesP
  rw [List.length_flatMap]
  have h1 : ∀ l : List Nat, (∀ x ∈ l, x ≤ 64) → l.sum ≤ l.length * 64 := by
    intro l
    induction l with
    | nil => intro _; simp
    | cons x r ih => intro h; have := h x (by simp); have := ih (fun y hy => h y (by simp [hy])); simp only [List.sum_cons, List.length_cons]; omega
  have := h1 ((List.range n).map fun a => (((List.range n).filter fun b => decide (a < b) && isE T a b).map fun b => (a, b)).length) (by
    intro x hx
    obtain ⟨a, _, rfl⟩ := List.mem_map.1 hx
    rw [List.length_map]
    have := List.length_filter_le (fun b => decide (a < b) && isE T a b) (List.range n)
    simp at this
    simp
    omega)
  rw [List.length_map, List.length_range] at this
  have : n * 64 ≤ 4096 := by omega
  omega
end Go.Proofs.Ytepilofcionekaa.Msh
namespace Go.Proofs.Ytepilofcionekaa
open Fl Go.RowKit Go.Proofs.YtepilofcionekaaW.PrintWords Go.Proofs.Ytepilofcionekaa.PMesh Msh
set_option linter.unusedVariables false

/-- A mesh that the reference has made: it is read alone. -/
def RefM (w : World) (a b : Nat) (vP vT : Value) (P : List S42) (T : List (List Int)) : Prop :=
  Kd.R k42 42 w a (In a b) vP P ∧ Kd.N (Kd.slice 2 (Kd.int .i64)) 56 w a (In a b) vT T
section
variable {w w' : World} {a b c d : Nat} {vP vT : Value} {P : List S42} {T : List (List Int)}
theorem RefM.below (h : RefM w a b vP vT P T) (hb : Below w.heap.size w w') : RefM w' a b vP vT P T := ⟨Kd.R_below h.1 hb, Kd.N_below h.2 hb⟩
theorem RefM.kept (h : RefM w a b vP vT P T) (hk : Kept w w' (In c d)) (ho : b ≤ c ∨ d ≤ a) : RefM w' a b vP vT P T := ⟨Kd.R_kept h.1 hk (In_off ho), Kd.N_kept h.2 hk (In_off ho)⟩
theorem RefM.C {A B : Option Addr} {n m e f : Nat} (h : RefM w a b (.slice A n e) (.slice B m f) P T) : Kd.C k42 w A P.length P ∧ P.length ≤ e ∧ Kd.C (Kd.slice 2 (Kd.int .i64)) w B T.length T ∧ T.length ≤ f := by
  obtain ⟨h1, h2, h3⟩ := Kd.R_reads' h.1
  obtain ⟨h4, h5, h6⟩ := Kd.N_reads' h.2
  exact ⟨h3, by omega, h6, by omega⟩
theorem N_in {α : Type} {d : Kd α} {e base : Nat} {w : World} {v : Value} {xs : List α} {ok : Nat → Prop} (h : Kd.N d e w base ok v xs) (hok : ∀ k, ok k → base ≤ k) : Kd.N d e w base (In base w.heap.size) v xs := Kd.N_mono (Kd.N_bound h) (fun k hk => ⟨hok k hk.1, hk.2⟩)
end
/-- What the reference's function with a mesh and a bool leaves. -/
def AnsR (w : World) (P : List S42) (T : List (List Int)) (b : Bool) (E : Ending) (w' : World) : Prop := ∃ A c B e, E = .returned (.tuple #[.agg #[.slice A P.length c, .slice B T.length e], .bool b]) ∧ RefM w' w.heap.size w'.heap.size (.slice A P.length c) (.slice B T.length e) P T ∧ Below w.heap.size w w'

/-- What a function with a mesh and a bool leaves. -/
def AnsM (w : World) (P : List S42) (T : List (List Int)) (b : Bool) (E : Ending) (w' : World) : Prop := ∃ A c B e, E = .returned (.tuple #[.agg #[.slice A P.length c, .slice B T.length e], .bool b]) ∧ OwnM w' w.heap.size w'.heap.size (.slice A P.length c) (.slice B T.length e) P T ∧ Below w.heap.size w w'

theorem eqR_step (P P' : List S42) (T : List (List Int)) (hp : simP P P') (h1 : P.length ≤ 1048576) (h2 : T.length ≤ 1048576) (h3 : ∀ t ∈ T, t.length ≤ 1048576) (W : World) (A A' B B' : Option Addr) (c c' e e' a b a' b' : Nat)
    (x : OwnM W a b (.slice A P.length c) (.slice B T.length e) P T) (y : RefM W a' b' (.slice A' P'.length c') (.slice B' T.length e') P' T) :
    Calls Try.prog 21 #[.agg #[.slice A P.length c, .slice B T.length e], .agg #[.slice A' P'.length c', .slice B' T.length e']] W fun E w' => E = .returned (.bool true) ∧ Below W.heap.size W w' :=
  laws_eqMesh.calls 2097156 A c P B e T A' c' P' B' e' T true W x.C.1 x.C.2.1 x.C.2.2.1 x.C.2.2.2 y.C.1 y.C.2.1 y.C.2.2.1 y.C.2.2.2 (eqMesh_f P P' T hp h1 h2 h3 _ (by omega))

end Go.Proofs.Ytepilofcionekaa
namespace Go.Proofs.Ytepilofcionekaa
open Fl Go.RowKit Go.Proofs.YtepilofcionekaaW.PrintWords Go.Proofs.YtepilofcionekaaW.PrintLast Go.Proofs.YtepilofcionekaaW.PrintMore Go.Proofs.Ytepilofcionekaa.PMesh Msh
set_option linter.unusedVariables false

theorem copy_loop (Q : List S42) (T : List (List Int)) (hT : T.length ≤ 1048576) (hr : ∀ t ∈ T, t.length ≤ 1048576) (d : Nat) : ∀ (k i : Nat), i ≤ T.length → T.length - i = d → d < k → impl_copyMesh.l0 k T (T.length : Int) (i : Int) Q (T.take i) = some (Q, T) := by
  induction d with
  | zero =>
    intro k i hi hd hk
    obtain ⟨k, rfl⟩ : ∃ j, k = j + 1 := ⟨k - 1, by omega⟩
    obtain rfl : i = T.length := by omega
    simp only [impl_copyMesh.l0]
    rw [if_neg (by omega), List.take_length]
  | succ d ih =>
    intro k i hi hd hk
    obtain ⟨k, rfl⟩ : ∃ j, k = j + 1 := ⟨k - 1, by omega⟩
    have hil : i < T.length := by omega
    have h3 := hr T[i] (List.getElem_mem hil)
    have e := ih k (i + 1) (by omega) (by omega) (by omega)
    rw [List.take_succ_eq_append_getElem hil] at e
    simp only [impl_copyMesh.l0, Option.bind_some, List.nil_append, List.length_nil]
    rw [if_pos (by omega), if_pos (by omega), if_pos (by omega), rdL T i hil, if_pos (by omega), if_pos (by rw [List.length_take]; omega), up i (by omega)]
    exact e
theorem copy_f (Q : List S42) (T : List (List Int)) (hQ : Q.length ≤ 1048576) (hT : T.length ≤ 1048576) (hr : ∀ t ∈ T, t.length ≤ 1048576) : impl_copyMesh.f 1048578 Q T = some (Q, T) := by
  unfold impl_copyMesh.f
  simp only [Option.bind_some, List.nil_append, List.length_nil]
  rw [if_pos (by omega)]
  exact copy_loop Q T hT hr T.length 1048578 0 (by omega) (by omega) (by omega)

theorem valid_rows {n : Nat} {T : List (List Int)} (hv : validB n T = true) : n ≤ 64 ∧ T.length ≤ 128 ∧ ∀ t ∈ T, t.length = 3 := by
  simp only [validB, Bool.and_eq_true, decide_eq_true_eq] at hv
  exact ⟨hv.1.1, hv.1.2, fun t ht => triB_len (List.all_eq_true.1 hv.2 t ht)⟩

theorem kept_two {w : World} {g : Nat} (u v : Value) : Kept w ((w.setCell ⟨g, 0, none⟩ u).setCell ⟨g, 1, none⟩ v) (fun k => k = g) := by
  have h1 : Kept w (w.setCell ⟨g, 0, none⟩ u) (fun k => k = g) := Kept.setCell (p := ⟨g, 0, none⟩) (Kept.refl w (fun k => k = g)) (Or.inl rfl) u
  exact Kept.setCell (p := ⟨g, 1, none⟩) h1 (Or.inl rfl) v

end Go.Proofs.Ytepilofcionekaa
namespace Go.Proofs.Ytepilofcionekaa
open Fl Go.RowKit Go.Proofs.YtepilofcionekaaW.PrintWords Go.Proofs.YtepilofcionekaaW.PrintLast Go.Proofs.YtepilofcionekaaW.PrintMore Go.Proofs.Ytepilofcionekaa.PMesh Msh
set_option linter.unusedVariables false

theorem oldc {w W : World} {a : Addr} {v : Value} (hb : Below w.heap.size w W) (h : w.cell? a = some v) : W.cell? a = some v := (hb.cell (World.block_lt_of_cell? _ _ h)).trans h

/-- The mesh's value if it is valid, else an empty mesh's. -/
def giveV (b : Bool) (u v : Value) : Value := if b = true then .agg #[u, v] else .agg #[.slice none 0 0, .slice none 0 0]

set_option maxHeartbeats 1000000 in
theorem impl_validMesh (A : Option Addr) (c : Nat) (Q : List S42) (B : Option Addr) (e : Nat) (T : List (List Int)) (w : World) (hQ : Kd.C k42 w A Q.length Q) (hq : Q.length ≤ c) (hT : Kd.C (Kd.slice 2 (Kd.int .i64)) w B T.length T) (hqt : T.length ≤ e) :
    Calls Try.prog 50 #[.agg #[.slice A Q.length c, .slice B T.length e]] w fun E w' => E = .returned (.tuple #[giveV (validB Q.length T) (.slice A Q.length c) (.slice B T.length e), .bool (validB Q.length T)]) ∧ Below w.heap.size w w' := by
  have hb0 := below_alloc (below_alloc (Below.refl w.heap.size w) (.cells #[.slice A Q.length c, .slice B T.length e] 27)) (.cells #[.slice none 0 0, .slice none 0 0] 27)
  have hbx := (BoxAt.new w 27 (.slice A Q.length c) (.slice B T.length e)).below (below_alloc (Below.refl _ _) (.cells #[.slice none 0 0, .slice none 0 0] 27))
  have hms : (w.alloc (.cells #[.slice A Q.length c, .slice B T.length e] 27)).heap.size = w.heap.size + 1 := by simp
  have hf0 := BoxAt.new (w.alloc (.cells #[.slice A Q.length c, .slice B T.length e] 27)) 27 (.slice none 0 0) (.slice none 0 0)
  rw [hms] at hf0
  have HX0 := Lib.hid hbx
  have HB0 := Lib.hid hb0
  have F0 := Lib.hid hf0
  have hc0 := hbx.c0
  have hc1 := hbx.c1
  have HV := Lib.hid (fun (W : World) (h : Below w.heap.size w W) => impl_ValidMesh.calls 2097156 A c Q B e T _ W (Kd.C_below hQ h) hq (Kd.C_below hT h) hqt (valid_f Q T _ (by omega)))
  generalize validB Q.length T = b at *
  clear hb0 hbx hf0 hms hQ hT hq hqt
  go_enter Try.func50, Try.ntmps50
  cases b
  · go_wp2_with (first
      | (go_at_call 43; refine (HV.out _ HB0.out).mono ?_; rintro E w1 ⟨rfl, hb⟩; have B1 := Lib.hid (below_then HB0.out hb HB0.out.size); have hf1 := F0.out.below hb; have f0 := hf1.c0; have f1 := hf1.c1; have z0 := blk_frozen hf1 0; have z1 := blk_frozen hf1 1; clear hb hc0 hc1)
      | fail)
    ((try simp only [Exit.inBlock, Exit.then]); refine bodyPost_ret (by simp [results, Try.results50, go_sem, f0, f1, setCell_same_of, World.cell?_setCell_other]; try rfl) rfl ?_)
    exact ⟨rfl, below_set (below_set B1.out (Nat.le_succ _)) (Nat.le_succ _)⟩
  · go_wp2_with (first
      | (go_at_call 43; refine (HV.out _ HB0.out).mono ?_; rintro E w1 ⟨rfl, hb⟩; have B1 := Lib.hid (below_then HB0.out hb HB0.out.size); have hx1 := HX0.out.below hb; have hd0 := hx1.c0; have hd1 := hx1.c1; have hf1 := F0.out.below hb; have f0 := hf1.c0; have f1 := hf1.c1; have z0 := blk_frozen hf1 0; have z1 := blk_frozen hf1 1; clear hb hc0 hc1)
      | fail)
    ((try simp only [Exit.inBlock, Exit.then]); refine bodyPost_ret (by simp [results, Try.results50, go_sem, f0, f1, setCell_same_of, World.cell?_setCell_other]; try rfl) rfl ?_)
    exact ⟨rfl, below_set (below_set B1.out (Nat.le_succ _)) (Nat.le_succ _)⟩

set_option maxHeartbeats 1000000 in
set_option maxRecDepth 100000 in
theorem spec_l02Is_reads (g : Nat) (A : Option Addr) (c : Nat) (Q : List S42) (B : Option Addr) (e : Nat) (T : List (List Int)) (w : World) (hg : BoxAt w g 27 (.slice A Q.length c) (.slice B T.length e)) (hT : Kd.C (Kd.slice 2 (Kd.int .i64)) w B T.length T) (hqt : T.length ≤ e) :
    Calls Try.prog 69 #[.pointer (some ⟨g, 0, none⟩)] w fun E w' => E = .returned (.bool (validB Q.length T)) ∧ Below w.heap.size w w' := by
  have hc0 := hg.c0
  have hc1 := hg.c1
  have hvd : validB Q.length T = (decide (Q.length ≤ 64) && decide (T.length ≤ 128) && T.all (triB Q.length)) := rfl
  by_cases hn : Q.length ≤ 64
  · by_cases ht : T.length ≤ 128
    · have e1 : ¬ ((64 : Int) < (Q.length : Int)) := by omega
      have e2 : ¬ ((128 : Int) < (T.length : Int)) := by omega
      rw [hvd, decide_eq_true hn, decide_eq_true ht, Bool.true_and, Bool.true_and]
      clear hvd
      have HG := Lib.hid hg
      have HC := Lib.hid hT
      clear hg hT
      go_enter Try.func69, Try.ntmps69
      go_wp2_with fail
      clear hc0 hc1
      go_loopw [3] (fun k wr => ∃ (i : Nat), i ≤ T.length ∧ k = .int .i64 (i : Int) ∧ Hid (Below w.heap.size w wr) ∧ Hid ((T.drop i).all (triB Q.length) = T.all (triB Q.length))) (fun k _ => T.length - (intOf k).toNat)
      case atStart => exact ⟨0, Nat.zero_le _, rfl, Lib.hid (Below.refl _ _), Lib.hid rfl⟩
      case round =>
        obtain ⟨i, hi, rfl, HB, HA⟩ := hrel
        have hg' := HG.out.below HB.out
        have hc0 := hg'.c0
        have hc1 := hg'.c1
        clear hg'
        by_cases hlt : i < T.length
        · have b1 : (i : Int) < (T.length : Int) := by omega
          have b2 : (0 : Int) ≤ (i : Int) := by omega
          have b3 : (i : Int) < 9223372036854775807 := by omega
          obtain ⟨ba, C, cc, rfl, tc, hcc, hC⟩ := at_L3 (Kd.C_below HC.out HB.out) (i : Int) (by omega) (by omega)
          rw [rdL T i hlt] at tc hcc hC
          rw [Int.toNat_natCast] at tc
          have hd : T.drop i = T[i] :: T.drop (i + 1) := List.drop_eq_getElem_cons hlt
          have HT3 := Lib.hid (fun (W : World) (h : Below wr.heap.size wr W) => spec_l02Triangle.calls 2 C cc T[i] (Q.length : Int) (triB Q.length T[i]) W (Kd.C_below hC h) hcc (triangle_f Q.length hn T[i] 2 (by omega)))
          have ha := HA.out
          rw [hd, List.all_cons] at ha
          have HA2 := Lib.hid ha
          clear hd ha HA hC hcc
          generalize T[i] = t at *
          have HK := Lib.hid (fun (W : World) (h : Below wr.heap.size wr W) => (⟨oldc h hc0, oldc h hc1, oldc h tc, h⟩ : W.cell? ⟨g, 0, none⟩ = some (.slice A Q.length c) ∧ W.cell? ⟨g, 1, none⟩ = some (.slice (some ba) T.length e) ∧ W.cell? (ba.add i) = some (.slice C t.length cc) ∧ Below wr.heap.size wr W))
          have S1 := HK.out wr (Below.refl _ _)
          go_wp2_with fail
          clear hc0 hc1 tc
          go_region_held3 (fun W => W.cell? ⟨g, 0, none⟩ = some (.slice A Q.length c) ∧ W.cell? ⟨g, 1, none⟩ = some (.slice (some ba) T.length e) ∧ W.cell? (ba.add i) = some (.slice C t.length cc) ∧ Below wr.heap.size wr W)
            (first | with_reducible assumption | (with_reducible exact HK.out _ (Below.drew (And.right (And.right (And.right (by with_reducible assumption)))))) | (with_reducible exact HK.out _ (below_then (And.right (And.right (And.right (by with_reducible assumption)))) (Drawn0.below (by with_reducible assumption)) (Below.size (And.right (And.right (And.right (by with_reducible assumption))))))))
            (first | (go_at_call 102; (with_reducible refine (HT3.out _ (And.right (And.right (And.right (by with_reducible assumption))))).mono ?_); rintro E w2 ⟨rfl, hd2⟩))
          rename_i hH
          have hbw := hH.2.2.2
          have HB2 := Lib.hid (below_then HB.out hbw HB.out.size)
          clear hH hbw S1 HK HT3
          clear hd2 e1 e2
          generalize triB Q.length t = q at *
          clear HG HC b1 b2 b3
          (try simp only [Exit.then])
          refine ‹∀ (a : Act) (w : World), Code.wp _ (Code.cond _ _ _) _ a w → _› _ _ ?_
          cases q
          · go_wp2_with fail
            go_ret
            exact ⟨by rw [← HA2.out]; rfl, HB2.out⟩
          · go_wp2_with fail
            exact ⟨⟨i + 1, hlt, by simp, HB2, Lib.hid (by rw [← HA2.out, Bool.true_and])⟩, by simp [intOf]; omega⟩
        · obtain rfl : i = T.length := by omega
          have hh := HA.out
          rw [List.drop_length] at hh
          go_wp2_with fail
          go_ret
          exact ⟨by rw [← hh]; rfl, HB.out⟩
    · have e1 : ¬ ((64 : Int) < (Q.length : Int)) := by omega
      have e2 : ((128 : Int) < (T.length : Int)) := by omega
      rw [hvd, decide_eq_false ht, Bool.and_false, Bool.false_and]
      go_enter Try.func69, Try.ntmps69
      go_wp2_with fail
      go_ret
      exact ⟨rfl, Below.refl _ _⟩
  · have e1 : ((64 : Int) < (Q.length : Int)) := by omega
    rw [hvd, decide_eq_false hn, Bool.false_and, Bool.false_and]
    go_enter Try.func69, Try.ntmps69
    go_wp2_with fail
    go_ret
    exact ⟨rfl, Below.refl _ _⟩

set_option maxHeartbeats 1000000 in
theorem spec_l02Give (A : Option Addr) (c : Nat) (Q : List S42) (B : Option Addr) (e : Nat) (T : List (List Int)) (w : World) (hT : Kd.C (Kd.slice 2 (Kd.int .i64)) w B T.length T) (hqt : T.length ≤ e) :
    Calls Try.prog 57 #[.agg #[.slice A Q.length c, .slice B T.length e]] w fun E w' => E = .returned (.tuple #[giveV (validB Q.length T) (.slice A Q.length c) (.slice B T.length e), .bool (validB Q.length T)]) ∧ Below w.heap.size w w' := by
  have hb0 := below_alloc (below_alloc (Below.refl w.heap.size w) (.cells #[.slice A Q.length c, .slice B T.length e] 27)) (.cells #[.slice none 0 0, .slice none 0 0] 27)
  have hbx := (BoxAt.new w 27 (.slice A Q.length c) (.slice B T.length e)).below (below_alloc (Below.refl _ _) (.cells #[.slice none 0 0, .slice none 0 0] 27))
  have hms : (w.alloc (.cells #[.slice A Q.length c, .slice B T.length e] 27)).heap.size = w.heap.size + 1 := by simp
  have hf0 := BoxAt.new (w.alloc (.cells #[.slice A Q.length c, .slice B T.length e] 27)) 27 (.slice none 0 0) (.slice none 0 0)
  rw [hms] at hf0
  have HX0 := Lib.hid hbx
  have HB0 := Lib.hid hb0
  have F0 := Lib.hid hf0
  have HV := Lib.hid (fun (W : World) (hx : BoxAt W w.heap.size 27 (.slice A Q.length c) (.slice B T.length e)) (h : Below w.heap.size w W) => spec_l02Is_reads w.heap.size A c Q B e T W hx (Kd.C_below hT h) hqt)
  generalize validB Q.length T = b at *
  clear hb0 hbx hf0 hms hT hqt
  go_enter Try.func57, Try.ntmps57
  cases b
  · go_wp2_with (first
      | (go_at_call 69; refine (HV.out _ HX0.out HB0.out).mono ?_; rintro E w1 ⟨rfl, hb⟩; have B1 := Lib.hid (below_then HB0.out hb HB0.out.size); have hf1 := F0.out.below hb; have f0 := hf1.c0; have f1 := hf1.c1; have z0 := blk_frozen hf1 0; have z1 := blk_frozen hf1 1; clear hb)
      | fail)
    ((try simp only [Exit.inBlock, Exit.then]); refine bodyPost_ret (by simp [results, Try.results57, go_sem, f0, f1, setCell_same_of, World.cell?_setCell_other]; try rfl) rfl ?_)
    exact ⟨rfl, below_set (below_set B1.out (Nat.le_succ _)) (Nat.le_succ _)⟩
  · go_wp2_with (first
      | (go_at_call 69; refine (HV.out _ HX0.out HB0.out).mono ?_; rintro E w1 ⟨rfl, hb⟩; have B1 := Lib.hid (below_then HB0.out hb HB0.out.size); have hx1 := HX0.out.below hb; have hd0 := hx1.c0; have hd1 := hx1.c1; have hf1 := F0.out.below hb; have f0 := hf1.c0; have f1 := hf1.c1; have z0 := blk_frozen hf1 0; have z1 := blk_frozen hf1 1; clear hb)
      | fail)
    ((try simp only [Exit.inBlock, Exit.then]); refine bodyPost_ret (by simp [results, Try.results57, go_sem, f0, f1, setCell_same_of, World.cell?_setCell_other]; try rfl) rfl ?_)
    exact ⟨rfl, below_set (below_set B1.out (Nat.le_succ _)) (Nat.le_succ _)⟩

end Go.Proofs.Ytepilofcionekaa
namespace Go.Proofs.Ytepilofcionekaa
open Fl Go.RowKit Go.Proofs.YtepilofcionekaaW.PrintWords Go.Proofs.YtepilofcionekaaW.PrintLast Go.Proofs.YtepilofcionekaaW.PrintMore Go.Proofs.Ytepilofcionekaa.PMesh Msh Mp
attribute [local go_sem] max2_int min2_int max_two min_two
set_option linter.unusedVariables false
set_option linter.unusedSimpArgs false

theorem mx_nat2 (a b : Nat) : (if a < b then (b : Int) else (a : Int)) = ((max a b : Nat) : Int) := by split <;> omega
theorem mn_nat2 (a b : Nat) : (if b < a then (b : Int) else (a : Int)) = ((min a b : Nat) : Int) := by split <;> omega

theorem impl_edgeOf (a b : Nat) (w : World) : Calls Try.prog 80 #[.int .i64 (a : Int), .int .i64 (b : Int)] w fun E w' => E = .returned (eval2 (edgeN (a, b))) ∧ Below w.heap.size w w' := by
  have hb0 := below_alloc (Below.refl w.heap.size w) (.cells #[.int .i64 0, .int .i64 0] 106)
  have hM := mx_nat2 a b
  have hm := mn_nat2 a b
  unfold edgeN eval2
  dsimp only
  generalize max a b = M at *
  generalize min a b = m at *
  have B0 := Lib.hid hb0
  clear hb0
  go_enter Try.func80, Try.ntmps80
  have hbx := BoxAt.new w 106 (.int .i64 (m : Int)) (.int .i64 (M : Int))
  have f0 := hbx.c0
  have f1 := hbx.c1
  have hb1 := below_alloc (Below.refl w.heap.size w) (.cells #[.int .i64 (m : Int), .int .i64 (M : Int)] 106)
  have B1 := Lib.hid hb1
  clear hbx hb1
  go_wp2_with fail
  ((try simp only [Exit.inBlock, Exit.then]); refine bodyPost_ret (by simp [results, Try.results80, go_sem, f0, f1]; try rfl) rfl ?_)
  exact ⟨rfl, B1.out⟩

/-! ### when a mesh is a sheet -/
theorem count_le_one {α : Type} [BEq α] [LawfulBEq α] : ∀ (l : List α) (a : α), l.Nodup → l.count a ≤ 1
  | [], a, _ => by simp
  | x :: r, a, h => by
    obtain ⟨h1, h2⟩ := List.nodup_cons.1 h
    rw [List.count_cons]
    by_cases hx : (x == a) = true
    · have hxa : x = a := by simpa using hx
      subst hxa
      have : r.count x = 0 := List.count_eq_zero.2 h1
      simp [this]
    · have := count_le_one r a h2
      simp only [hx]
      simpa using this
def cntE (ps : List (Nat × Nat)) (e : Nat × Nat) : Nat := (ps.map edgeN).count e
theorem cntE_le (e : Nat × Nat) : ∀ ps : List (Nat × Nat), cntE ps e ≤ ps.count e + ps.count (e.2, e.1)
  | [] => by simp [cntE]
  | q :: r => by
    have ih := cntE_le e r
    unfold cntE at ih ⊢
    rw [List.map_cons, List.count_cons, List.count_cons, List.count_cons]
    by_cases h : edgeN q = e
    · have hq : q = e ∨ q = (e.2, e.1) := by
        obtain ⟨q1, q2⟩ := q
        obtain ⟨e1, e2⟩ := e
        simp only [edgeN, Prod.mk.injEq] at h ⊢
        omega
      rcases hq with hq | hq
      · have : (q == e) = true := by simpa using hq
        rw [if_pos this]
        split <;> split <;> omega
      · have : (q == (e.2, e.1)) = true := by simpa using hq
        rw [if_pos this]
        split <;> split <;> omega
    · have : ¬ ((edgeN q == e) = true) := by simpa using h
      rw [if_neg this]
      omega
theorem cntE_two {ps : List (Nat × Nat)} (h : ps.Nodup) (e : Nat × Nat) : cntE ps e ≤ 2 := by
  have h1 := cntE_le e ps
  have h2 := count_le_one ps e h
  have h3 := count_le_one ps (e.2, e.1) h
  omega
theorem cntE_len (ps : List (Nat × Nat)) (e : Nat × Nat) : cntE ps e ≤ ps.length := by
  have := List.count_le_length (a := e) (l := ps.map edgeN)
  rwa [List.length_map] at this
theorem cntE_snoc (ps : List (Nat × Nat)) (p : Nat × Nat) : upd (cntE ps) (edgeN p) (cntE ps (edgeN p) + 1) = cntE (ps ++ [p]) := by
  funext q
  unfold upd cntE
  rw [List.map_append, List.count_append]
  by_cases h : q = edgeN p
  · subst h; simp
  · rw [if_neg h]
    have : ¬ edgeN p = q := fun e => h e.symm
    simp [this]
def memE (ps : List (Nat × Nat)) (p : Nat × Nat) : Bool := decide (p ∈ ps)
theorem memE_snoc (ps : List (Nat × Nat)) (p : Nat × Nat) : upd (memE ps) p true = memE (ps ++ [p]) := by
  funext q
  unfold upd memE
  by_cases h : q = p
  · subst h; simp
  · simp [h]
/-- Whether a mesh is a sheet. -/
def sheetB (n : Nat) (T : List (List Int)) : Bool := validB n T && decide (tways T).Nodup
theorem ways_take (T : List (List Int)) (i : Nat) (h : i < T.length) : tways T = tways (T.take i) ++ ways3 T[i] ++ tways (T.drop (i + 1)) := by
  have : T = T.take i ++ T[i] :: T.drop (i + 1) := by rw [← List.drop_eq_getElem_cons h, List.take_append_drop]
  conv => lhs; rw [this]
  unfold tways
  rw [List.flatMap_append, List.flatMap_cons, List.append_assoc]
end Go.Proofs.Ytepilofcionekaa
namespace Go.Proofs.Ytepilofcionekaa
open Go.Shelf Go.Proofs

def Edge.sortE_ren : Go.Shelf.Ren := ⟨fun | 6 => 106 | 15 => 121 | 14 => 120 | 28 => 132 | 29 => 133 | 20 => 124 | 21 => 125 | 22 => 126 | 23 => 127 | 24 => 128 | 25 => 129 | 26 => 130 | 27 => 131 | 46 => 135 | 47 => 136 | 48 => 137 | 49 => 138 | 50 => 139 | 57 => 141 | n => n, fun | 22 => 96 | 24 => 106 | 25 => 124 | 3 => 3 | 39 => 126 | 0 => 0 | 53 => 144 | 55 => 108 | 4 => 4 | 46 => 137 | 45 => 136 | 50 => 141 | 5 => 5 | 9 => 9 | 66 => 147 | 70 => 151 | 76 => 154 | 77 => 155 | n => n, fun | n => n⟩
theorem Edge.sortE : Go.Proofs.SlLaysF0.n6 Try.prog Edge.sortE_ren := {
  mixed := by kernel_rfl
  f6 := ⟨Try.f106.name, by decide, Try.func106.trans (congrArg some (by kernel_rfl))⟩
  f14 := ⟨Try.f120.name, by decide, Try.func120.trans (congrArg some (by kernel_rfl))⟩
  f15 := Try.func121.trans (congrArg some (by kernel_rfl))
  f20 := ⟨Try.f124.name, by decide, Try.func124.trans (congrArg some (by kernel_rfl))⟩
  f21 := ⟨Try.f125.name, by decide, Try.func125.trans (congrArg some (by kernel_rfl))⟩
  f22 := ⟨Try.f126.name, by decide, Try.func126.trans (congrArg some (by kernel_rfl))⟩
  f23 := ⟨Try.f127.name, by decide, Try.func127.trans (congrArg some (by kernel_rfl))⟩
  f24 := ⟨Try.f128.name, by decide, Try.func128.trans (congrArg some (by kernel_rfl))⟩
  f25 := ⟨Try.f129.name, by decide, Try.func129.trans (congrArg some (by kernel_rfl))⟩
  f26 := ⟨Try.f130.name, by decide, Try.func130.trans (congrArg some (by kernel_rfl))⟩
  f27 := ⟨Try.f131.name, by decide, Try.func131.trans (congrArg some (by kernel_rfl))⟩
  f28 := Try.func132.trans (congrArg some (by kernel_rfl))
  f29 := Try.func133.trans (congrArg some (by kernel_rfl))
  f46 := ⟨Try.f135.name, by decide, Try.func135.trans (congrArg some (by kernel_rfl))⟩
  f47 := Try.func136.trans (congrArg some (by kernel_rfl))
  f48 := Try.func137.trans (congrArg some (by kernel_rfl))
  f49 := ⟨Try.f138.name, by decide, Try.func138.trans (congrArg some (by kernel_rfl))⟩
  f50 := ⟨Try.f139.name, by decide, Try.func139.trans (congrArg some (by kernel_rfl))⟩
  f57 := ⟨Try.f141.name, by decide, Try.func141.trans (congrArg some (by kernel_rfl))⟩
  t0 := Try.underlying0
  a0 := Try.isAgg0
  z0 := Try.sizeOf0
  v0 := Try.zeroValue0
  t3 := Try.underlying3
  a3 := Try.isAgg3
  z3 := Try.sizeOf3
  v3 := Try.zeroValue3
  t4 := Try.underlying4
  a4 := Try.isAgg4
  z4 := Try.sizeOf4
  v4 := Try.zeroValue4
  t5 := Try.underlying5
  a5 := Try.isAgg5
  z5 := Try.sizeOf5
  v5 := Try.zeroValue5
  t9 := Try.underlying9
  a9 := Try.isAgg9
  z9 := Try.sizeOf9
  v9 := Try.zeroValue9
  t22 := Try.underlying96
  a22 := Try.isAgg96
  z22 := Try.sizeOf96
  v22 := Try.zeroValue96
  t25 := Try.underlying124
  a25 := Try.isAgg124
  z25 := Try.sizeOf124
  v25 := Try.zeroValue124
  t39 := Try.underlying126
  a39 := Try.isAgg126
  z39 := Try.sizeOf126
  v39 := Try.zeroValue126
  t45 := Try.underlying136
  a45 := Try.isAgg136
  z45 := Try.sizeOf136
  v45 := Try.zeroValue136
  t46 := Try.underlying137
  a46 := Try.isAgg137
  z46 := Try.sizeOf137
  v46 := Try.zeroValue137
  t50 := Try.underlying141
  a50 := Try.isAgg141
  z50 := Try.sizeOf141
  v50 := Try.zeroValue141
  t53 := Try.underlying144
  a53 := Try.isAgg144
  z53 := Try.sizeOf144
  v53 := Try.zeroValue144
  t55 := Try.underlying108
  a55 := Try.isAgg108
  z55 := Try.sizeOf108
  v55 := Try.zeroValue108
  t66 := Try.underlying147
  a66 := Try.isAgg147
  z66 := Try.sizeOf147
  v66 := Try.zeroValue147
  t70 := Try.underlying151
  a70 := Try.isAgg151
  z70 := Try.sizeOf151
  v70 := Try.zeroValue151
  t76 := Try.underlying154
  a76 := Try.isAgg154
  z76 := Try.sizeOf154
  v76 := Try.zeroValue154
  t77 := Try.underlying155
  a77 := Try.isAgg155
  z77 := Try.sizeOf155
  v77 := Try.zeroValue155 }
def Edge.cmpE_ren : Go.Shelf.Ren := ⟨fun | 5 => 134 | 7 => 140 | n => n, fun | 22 => 2 | 3 => 3 | 4 => 4 | n => n, fun | n => n⟩
theorem Edge.cmpE : Go.Proofs.SlLaysC2.n5 Try.prog Edge.cmpE_ren := {
  mixed := by kernel_rfl
  f5 := ⟨Try.f134.name, by decide, Try.func134.trans (congrArg some (by kernel_rfl))⟩
  f7 := ⟨Try.f140.name, by decide, Try.func140.trans (congrArg some (by kernel_rfl))⟩
  t3 := Try.underlying3
  a3 := Try.isAgg3
  z3 := Try.sizeOf3
  v3 := Try.zeroValue3
  t4 := Try.underlying4
  a4 := Try.isAgg4
  z4 := Try.sizeOf4
  v4 := Try.zeroValue4
  t22 := Try.underlying2
  a22 := Try.isAgg2
  z22 := Try.sizeOf2
  v22 := Try.zeroValue2 }

end Go.Proofs.Ytepilofcionekaa
namespace Go.Proofs.Ytepilofcionekaa
open Go.RowKit Go.Proofs.YtepilofcionekaaW.PrintWords Go.Proofs.YtepilofcionekaaW.PrintLast Go.Proofs.YtepilofcionekaaW.PrintMore Go.Proofs.Ytepilofcionekaa.PMesh Go.Sort Go.Lib Go.Proofs
set_option linter.unusedVariables false
set_option linter.unusedSimpArgs false

def ecells (p : Nat × Nat) : List Value := [.int .i64 (p.1 : Int), .int .i64 (p.2 : Int)]
def cmpP (p q : Nat × Nat) : Int := if Lib.compareInt (p.1 : Int) (q.1 : Int) = 0 then Lib.compareInt (p.2 : Int) (q.2 : Int) else Lib.compareInt (p.1 : Int) (q.1 : Int)
theorem cmpP_lt (p q : Nat × Nat) : ltOf cmpP p q = decide (p.1 < q.1 ∨ (p.1 = q.1 ∧ p.2 < q.2)) := by
  unfold ltOf cmpP Lib.compareInt
  by_cases h1 : (p.1 : Int) < (q.1 : Int)
  · have : p.1 < q.1 := by omega
    simp [h1, this]
  · by_cases h2 : (q.1 : Int) < (p.1 : Int)
    · have h3 : ¬ p.1 < q.1 := by omega
      have h4 : ¬ p.1 = q.1 := by omega
      simp [h1, h2, h3, h4]
    · have h3 : ¬ p.1 < q.1 := by omega
      have h4 : p.1 = q.1 := by omega
      by_cases h5 : (p.2 : Int) < (q.2 : Int)
      · have : p.2 < q.2 := by omega
        simp [h1, h2, h4, h5, this]
      · have h7 : ¬ p.2 < q.2 := by omega
        by_cases h6 : (q.2 : Int) < (p.2 : Int) <;> simp [h1, h2, h4, h5, h6, h7]
theorem cmpP_swo : SWO (ltOf cmpP) where
  irrefl x := by rw [cmpP_lt]; simp
  trans x y z h1 h2 := by rw [cmpP_lt] at *; simp at *; omega
  ntrans x y z h1 h2 := by rw [cmpP_lt] at *; simp at *; omega

set_option maxHeartbeats 2000000 in
set_option maxRecDepth 100000 in
theorem slices_cmp (x1 x2 y1 y2 : Int) (g h : Nat) (W : World) (hx1 : W.cell? ⟨g, 0, none⟩ = some (.int .i64 x1)) (hx2 : W.cell? ⟨g, 1, none⟩ = some (.int .i64 x2)) (hy1 : W.cell? ⟨h, 0, none⟩ = some (.int .i64 y1)) (hy2 : W.cell? ⟨h, 1, none⟩ = some (.int .i64 y2)) :
    Calls Try.prog 122 #[.slice (some ⟨g, 0, none⟩) 2 2, .slice (some ⟨h, 0, none⟩) 2 2] W fun e w' => e = .returned (.int .i64 (if Lib.compareInt x1 y1 = 0 then Lib.compareInt x2 y2 else Lib.compareInt x1 y1)) ∧ w' = W := by
  have hc1 : Calls Try.prog 134 #[.int .i64 x1, .int .i64 y1] W fun e w' => e = .returned (.int .i64 (Lib.compareInt x1 y1)) ∧ w' = W := AnyG.cmp_Compare_int Edge.cmpE x1 y1 W
  have hc2 : Calls Try.prog 134 #[.int .i64 x2, .int .i64 y2] W fun e w' => e = .returned (.int .i64 (Lib.compareInt x2 y2)) ∧ w' = W := AnyG.cmp_Compare_int Edge.cmpE x2 y2 W
  generalize Lib.compareInt x1 y1 = c1 at *
  generalize Lib.compareInt x2 y2 = c2 at *
  have HC1 := Lib.hid hc1
  have HC2 := Lib.hid hc2
  clear hc1 hc2
  go_enter Try.func122, Try.ntmps122
  go_wp2_with fail
  go_loopw [11] (fun k wr => ∃ i : Nat, i ≤ 2 ∧ k = .int .i64 (i : Int) ∧ wr = W ∧ (0 < i → c1 = 0) ∧ (1 < i → c2 = 0)) (fun k _ => 2 - (intOf k).toNat)
  case atStart => exact ⟨0, by omega, rfl, rfl, by omega, by omega⟩
  case round =>
    obtain ⟨i, hi, rfl, rfl, h1, h2⟩ := hrel
    rcases (by omega : i = 0 ∨ i = 1 ∨ i = 2) with rfl | rfl | rfl
    · by_cases hz : c1 = 0
      · go_wp2_with (first
          | (go_at_call 134; refine (HC1.out).mono ?_; rintro E w1 ⟨rfl, rfl⟩)
          | fail)
        go_roundw
        case rel => exact ⟨1, by omega, rfl, by first | rfl | trivial, fun _ => by first | exact hz | trivial, fun h => by first | exact absurd h (by omega) | trivial⟩
        case measure => simp [intOf]
      · go_wp2_with (first
          | (go_at_call 134; refine (HC1.out).mono ?_; rintro E w1 ⟨rfl, rfl⟩)
          | fail)
        go_ret
        first | exact ⟨rfl, rfl⟩ | exact ⟨by rw [if_neg hz]; rfl, rfl⟩
    · have hz1 := h1 (by omega)
      by_cases hz : c2 = 0
      · go_wp2_with (first
          | (go_at_call 134; refine (HC2.out).mono ?_; rintro E w1 ⟨rfl, rfl⟩)
          | fail)
        go_roundw
        case rel => exact ⟨2, by omega, rfl, by first | rfl | trivial, fun _ => by first | exact hz1 | trivial, fun h => by first | exact hz | trivial⟩
        case measure => simp [intOf]
      · go_wp2_with (first
          | (go_at_call 134; refine (HC2.out).mono ?_; rintro E w1 ⟨rfl, rfl⟩)
          | fail)
        go_ret
        first | exact ⟨rfl, rfl⟩ | exact ⟨by rw [if_pos hz1]; rfl, rfl⟩
    · have hz1 := h1 (by omega)
      have hz2 := h2 (by omega)
      go_wp2_with fail
      go_ret
      first | exact ⟨rfl, rfl⟩ | exact ⟨by rw [if_pos hz1, hz2]; rfl, rfl⟩ | exact ⟨by rw [hz2]; rfl, rfl⟩

set_option maxHeartbeats 2000000 in
set_option maxRecDepth 100000 in
theorem impl_compareEdges (p q : Nat × Nat) (W : World) : Calls Try.prog 107 #[.agg (ecells p).toArray, .agg (ecells q).toArray] W fun e w' => e = .returned (.int .i64 (cmpP p q)) ∧ ∃ n os, w' = grow (W.drewN n) os := by
  obtain ⟨p1, p2⟩ := p
  obtain ⟨q1, q2⟩ := q
  unfold cmpP ecells
  dsimp only
  have HC := Lib.hid (slices_cmp (p1 : Int) (p2 : Int) (q1 : Int) (q2 : Int))
  generalize (if Lib.compareInt (p1 : Int) (q1 : Int) = 0 then Lib.compareInt (p2 : Int) (q2 : Int) else Lib.compareInt (p1 : Int) (q1 : Int)) = r at HC ⊢
  have hb1 := BoxAt.new W 106 (.int .i64 (p1 : Int)) (.int .i64 (p2 : Int))
  have hsz1 : (W.alloc (.cells #[.int .i64 (p1 : Int), .int .i64 (p2 : Int)] 106)).heap.size = W.heap.size + 1 := by simp
  have hb2 := BoxAt.new (W.alloc (.cells #[.int .i64 (p1 : Int), .int .i64 (p2 : Int)] 106)) 106 (.int .i64 (q1 : Int)) (.int .i64 (q2 : Int))
  rw [hsz1] at hb2
  replace hb1 := hb1.below (below_alloc (Below.refl _ _) (.cells #[.int .i64 (q1 : Int), .int .i64 (q2 : Int)] 106))
  have HW : Hid (((W.alloc (.cells #[.int .i64 (p1 : Int), .int .i64 (p2 : Int)] 106)).alloc (.cells #[.int .i64 (q1 : Int), .int .i64 (q2 : Int)] 106)).drew = grow (W.drewN 1) #[.cells #[.int .i64 (p1 : Int), .int .i64 (p2 : Int)] 106, .cells #[.int .i64 (q1 : Int), .int .i64 (q2 : Int)] 106]) := Lib.hid (by rw [alloc_eq_grow, alloc_eq_grow, grow_grow]; rfl)
  have D1 := Lib.hid (hb1.below (Below.drew (Below.refl _ _)))
  have D2 := Lib.hid (hb2.below (Below.drew (Below.refl _ _)))
  clear hb1 hb2
  go_enter Try.func107, Try.ntmps107
  go_wp2_with fail
  refine start_ (n := 4) (S := fun w' => w'.cell? ⟨W.heap.size, 0, none⟩ = some (.int .i64 (p1 : Int)) ∧ w'.cell? ⟨W.heap.size, 1, none⟩ = some (.int .i64 (p2 : Int)) ∧ w'.cell? ⟨W.heap.size + 1, 0, none⟩ = some (.int .i64 (q1 : Int)) ∧ w'.cell? ⟨W.heap.size + 1, 1, none⟩ = some (.int .i64 (q2 : Int))) (ds := []) #[false, false, false, false] (by kernel_rfl) rfl rfl ⟨D1.out.c0, D1.out.c1, D2.out.c0, D2.out.c1⟩ (fun hHeld => ?_)
  obtain ⟨w2, hw2⟩ : ∃ w2, w2 = ((W.alloc (.cells #[.int .i64 (p1 : Int), .int .i64 (p2 : Int)] 106)).alloc (.cells #[.int .i64 (q1 : Int), .int .i64 (q2 : Int)] 106)).drew := ⟨_, rfl⟩
  rw [← hw2] at HW D1 D2 hHeld ⊢
  clear hw2
  refine pure_ (i := 0) (N := (some 5)) (v := ?_) (a' := ?_) #[true, false, false, false] rfl rfl (by kernel_rfl) (fun _ _ _ h => h) (Or.inl ⟨by rfl, ?_⟩) ?_ ?_
  rotate_left
  · intro w'
    go_simp
    with_reducible rfl
  rotate_left
  · simp only [Act.put, List.setIfInBounds_toArray, List.set_cons_zero, List.set_cons_succ, i64_w, i32_w]; rfl
  refine pure_ (i := 1) (N := (some 6)) (v := ?_) (a' := ?_) #[true, true, false, false] rfl rfl (by kernel_rfl) (fun _ _ _ h => h) (Or.inl ⟨by rfl, ?_⟩) ?_ ?_
  rotate_left
  · intro w'
    go_simp
    with_reducible rfl
  rotate_left
  · simp only [Act.put, List.setIfInBounds_toArray, List.set_cons_zero, List.set_cons_succ, i64_w, i32_w]; rfl
  refine one_ (i := 2) (N := (some 7)) #[true, true, true, false] rfl rfl (by kernel_rfl) (by decide) (fun K hK => ?_)
  refine goes_ Try.func122 (by kernel_rfl) rfl #[.slice (some ⟨W.heap.size, 0, none⟩) 2 2, .slice (some ⟨W.heap.size + 1, 0, none⟩) 2 2] (by rfl) rfl rfl (by (try simp only [List.map_toArray, List.map_cons, List.map_nil]); first | done | rfl) ?_
  refine (HC.out W.heap.size (W.heap.size + 1) w2 D1.out.c0 D1.out.c1 D2.out.c0 D2.out.c1).mono ?_
  rintro E w3 ⟨rfl, rfl⟩
  refine ⟨_, rfl, ?_⟩
  refine hK.out _ _ ⟨D1.out.c0, D1.out.c1, D2.out.c0, D2.out.c1⟩ (fun hHeld => ?_)
  clear hK K
  refine norm_ (a' := ?_) ?_ ?_
  rotate_left
  · show Act.put _ (some 7) _ = _
    simp only [Act.put, List.setIfInBounds_toArray, List.set_cons_zero, List.set_cons_succ, i64_w, i32_w]
    rfl
  refine pure_ (i := 3) (N := (some 4)) (v := ?_) (a' := ?_) #[true, true, true, true] rfl rfl (by kernel_rfl) (fun _ _ _ h => h) (Or.inl ⟨by rfl, ?_⟩) ?_ ?_
  rotate_left
  · intro w'
    go_simp
    with_reducible rfl
  rotate_left
  · simp only [Act.put, List.setIfInBounds_toArray, List.set_cons_zero, List.set_cons_succ, i64_w, i32_w]; rfl
  refine done_ (by kernel_rfl) ?_
  go_wp2_with fail
  go_ret
  exact ⟨rfl, 1, _, HW.out⟩

theorem edges_cell (l : List (Nat × Nat)) : ∀ j, j < l.length * 2 → (l.flatMap ecells)[j]? = some ((ecells (l[j / 2]!))[j % 2]!) := by
  induction l with
  | nil => intro j hj; simp at hj
  | cons p r ih =>
    intro j hj
    rw [List.flatMap_cons]
    rcases j with _ | _ | j
    · rfl
    · rfl
    · have h1 : (j + 1 + 1) / 2 = j / 2 + 1 := by omega
      have h2 : (j + 1 + 1) % 2 = j % 2 := by omega
      rw [h1, h2]
      have := ih j (by simp at hj; omega)
      simpa [ecells] using this
theorem cells_len (l : List (Nat × Nat)) : (l.flatMap ecells).length = l.length * 2 := by
  induction l with
  | nil => rfl
  | cons p r ih => rw [List.flatMap_cons, List.length_append, ih, List.length_cons]; simp only [ecells, List.length_cons, List.length_nil]; omega
theorem edges_held {w : World} {g : Nat} {cur : Array Value} {e : TypeId} {l : List (Nat × Nat)} (hb : w.heap[g]? = some (.cells cur e (0, 0))) (ht : cur.toList.take (l.length * 2) = l.flatMap ecells) : HoldsK ecells 2 w g 0 l.toArray := by
  intro j hj
  have hj' : j < l.length * 2 := by simpa using hj
  refine ⟨?_, by simp [World.frozen?, hb]⟩
  have h1 : (cur.toList.take (l.length * 2))[j]? = (l.flatMap ecells)[j]? := by rw [ht]
  rw [List.getElem?_take_of_lt hj', edges_cell l j hj'] at h1
  rw [get_flatK _ _ _ _ (by simpa using hj')]
  simp only [World.cell?, hb, Nat.zero_add, id]
  simp only [Option.isSome_none, Bool.false_eq_true, if_false]
  rw [← Array.getElem?_toList, h1]
  simp
theorem grown_sorted {w : World} {g n : Nat} {os : Array Obj} (d : Array (Nat × Nat)) : w.grownBy (sortWorldK ecells 2 w g 0 n d os) (some g) := by
  refine ⟨rfl, rfl, rfl, by simp [sortWorldK, putRowK], fun k hk hne => ?_⟩
  unfold sortWorldK putRowK
  rw [heap_grow_old _ _ (by simpa using hk)]
  have : g ≠ k := fun e => hne (by rw [e])
  simp [putRow, mapBlock, Sort.ahead, Array.getElem?_modify, this]

theorem sort_step (l : List (Nat × Nat)) (hl : l.length < 1000000) (g cap : Nat) (w : World) {cur : Array Value} {e : TypeId} (hb : w.heap[g]? = some (.cells cur e (0, 0))) (ht : cur.toList.take (l.length * 2) = l.flatMap ecells) :
    Calls Try.prog 106 #[.slice (some ⟨g, 0, none⟩) l.length cap, .func (.func 107) #[] #[]] w fun E w' => E = .returned (.tuple #[]) ∧ w.grownBy w' (some g) := by
  have eg : ∀ args w, (callFunc 107 args).run Try.prog w = .ok (.enter 107 args) w := enters_of Try.func107 (by kernel_rfl) rfl
  have hcon := AnyQ.slices_SortFunc Edge.sortE 2 Try.isAgg106 Try.sizeOf106 ecells (fun _ => rfl) (fun x v hv => by simp [ecells] at hv; rcases hv with rfl | rfl <;> rfl) cmpP cmpP_swo 107 #[] g 0 cap l.toArray w eg (fun _ _ _ _ x y => impl_compareEdges x y _) (edges_held hb ht) (blk_lt hb) (by simp; omega)
  rw [List.size_toArray] at hcon
  refine hcon.mono ?_
  rintro E w' ⟨rfl, d, n, os, _, _, rfl⟩
  exact ⟨rfl, grown_sorted d⟩

end Go.Proofs.Ytepilofcionekaa
namespace Go.Proofs.Ytepilofcionekaa.Msh
open Fl Go.RowKit Go.Proofs.YtepilofcionekaaW.PrintWords Go.Proofs.Ytepilofcionekaa.PMesh
set_option linter.unusedVariables false

/-- The places that some triangle has. -/
def usedL (n : Nat) (T : List (List Int)) : List Bool := (List.range n).map fun p => isE T p p
/-- The number of edges that differ. -/
def edgesC (n : Nat) (T : List (List Int)) : Nat := (edgesP n T).length
def eulerV (n : Nat) (T : List (List Int)) : Int := ((usedL n T).count true : Int) + (T.length : Int) - (edgesC n T : Int)
def eulerR (n : Nat) (T : List (List Int)) : Int × Bool := if validB n T = true then (eulerV n T, true) else (0, false)
theorem usedL_len (n : Nat) (T : List (List Int)) : (usedL n T).length = n := by simp [usedL]
theorem used_take (n : Nat) (T : List (List Int)) (i : Nat) (h : i < n) : ((usedL n T).take (i + 1)).count true = ((usedL n T).take i).count true + (if isE T i i = true then 1 else 0) := by
  have hl : i < (usedL n T).length := by rw [usedL_len]; exact h
  have e : (usedL n T)[i] = isE T i i := by simp [usedL]
  rw [List.take_succ_eq_append_getElem hl, List.count_append, e]
  cases isE T i i <;> simp
theorem withL_pos (a b : Nat) : ∀ (T : List (List Int)) (i : Nat), (0 < (withL [(a : Int), (b : Int)] i T).length) ↔ isE T a b = true
  | [], i => by simp [withL, isE]
  | t :: r, i => by
    have ih := withL_pos a b r (i + 1)
    unfold withL isE
    rw [hasAll_two, List.any_cons]
    by_cases h : (t.contains (a : Int) && t.contains (b : Int)) = true
    · rw [if_pos h, h]; simp
    · rw [if_neg h, Bool.eq_false_iff.2 h, Bool.false_or, ih]; rfl

theorem count_le_len {α : Type} [BEq α] (a : α) (l : List α) : l.count a ≤ l.length := List.count_le_length

/-! ### the program's usedPlaces -/
def Mark (n : Nat) (ps : List Nat) (s : List Bool) : Prop := s.length = n ∧ ∀ p, p < n → s.getD p false = decide (p ∈ ps)
theorem Mark.start (n : Nat) : Mark n [] (List.replicate n false) := ⟨by simp, fun p hp => by
  rw [List.getD_eq_getElem?_getD, List.getElem?_replicate]
  simp [hp]⟩
theorem Mark.step {n : Nat} {ps : List Nat} {s : List Bool} (h : Mark n ps s) {p : Nat} (hp : p < n) : Mark n (ps ++ [p]) (s.set p true) := by
  refine ⟨by rw [List.length_set]; exact h.1, fun q hq => ?_⟩
  have hl : p < s.length := by rw [h.1]; exact hp
  rw [List.getD_eq_getElem?_getD]
  by_cases e : p = q
  · subst e
    rw [List.getElem?_set_self hl]
    simp
  · rw [List.getElem?_set_ne e, ← List.getD_eq_getElem?_getD, h.2 q hq, decide_eq_decide]
    have : ¬ q = p := fun h => e h.symm
    simp [this]
/-- The places of some triangles, one after the other. -/
def placesL (T : List (List Int)) : List Nat := T.flatMap fun t => t.map Int.toNat
theorem placesL_snoc (T : List (List Int)) (t : List Int) : placesL (T ++ [t]) = placesL T ++ t.map Int.toNat := by simp [placesL]
theorem mem_places {n : Nat} {T : List (List Int)} (h : T.all (triB n) = true) (p : Nat) : p ∈ placesL T ↔ isE T p p = true := by
  unfold isE placesL
  rw [List.any_eq_true, List.mem_flatMap]
  constructor
  · rintro ⟨t, ht, hp⟩
    refine ⟨t, ht, ?_⟩
    obtain ⟨x, y, z, rfl, _⟩ := tri_natE (List.all_eq_true.1 h t ht)
    simp at hp
    simp
    omega
  · rintro ⟨t, ht, hp⟩
    refine ⟨t, ht, ?_⟩
    obtain ⟨x, y, z, rfl, _⟩ := tri_natE (List.all_eq_true.1 h t ht)
    simp at hp
    simp
    omega

theorem u1_step (k : Nat) (s : List Bool) (T : List (List Int)) (l i : Int) (t : List Int) (j : Int) (p : Nat) (hl : p < s.length) (h0 : 0 ≤ j) (h3 : j < 3) (ht : t.length = 3) (e1 : rd t j = (p : Int)) :
    impl_usedPlaces.l1 (k + 1) s T l i t 3 j = impl_usedPlaces.l1 k (s.set p true) T l i t 3 (wrap64 (j + 1)) := by
  simp only [impl_usedPlaces.l1]
  rw [if_pos h3, if_pos h0, if_pos (by rw [ht]; omega), e1, if_pos (Int.natCast_nonneg _), if_pos (Int.ofNat_lt.2 hl), Int.toNat_natCast]
theorem u01 : wrap64 (0 + 1) = 1 := by rw [wrap_fit (by omega) (by omega)]; rfl
theorem u12 : wrap64 (1 + 1) = 2 := by rw [wrap_fit (by omega) (by omega)]; rfl
theorem u23 : wrap64 (2 + 1) = 3 := by rw [wrap_fit (by omega) (by omega)]; rfl
theorem u1_all (k n : Nat) (s : List Bool) (ps : List Nat) (hs : Mark n ps s) (T : List (List Int)) (l i : Int) (a b c : Nat) (ha : a < n) (hb : b < n) (hc : c < n) :
    ∃ s', Mark n (ps ++ [a, b, c]) s' ∧ impl_usedPlaces.l1 (k + 4) s T l i [(a : Int), (b : Int), (c : Int)] 3 0 = impl_usedPlaces.l0 k s' T l (wrap64 (i + 1)) := by
  have s1 := hs.step ha
  have s2 := s1.step hb
  have s3 := s2.step hc
  refine ⟨_, by simpa using s3, ?_⟩
  rw [u1_step (k + 3) s T l i _ 0 a (by rw [hs.1]; exact ha) (by omega) (by omega) rfl rfl, u01]
  rw [u1_step (k + 2) _ T l i _ 1 b (by rw [s1.1]; exact hb) (by omega) (by omega) rfl rfl, u12]
  rw [u1_step (k + 1) _ T l i _ 2 c (by rw [s2.1]; exact hc) (by omega) (by omega) rfl rfl, u23]
  simp only [impl_usedPlaces.l1]
  rw [if_neg (by omega)]

theorem u0_loop (n : Nat) (T : List (List Int)) (hT : T.length ≤ 128) (ht : T.all (triB n) = true) (d : Nat) : ∀ (k i : Nat) (s : List Bool), i ≤ T.length → T.length - i = d → Mark n (placesL (T.take i)) s → 5 * d + 1 < k →
    ∃ s', Mark n (placesL T) s' ∧ impl_usedPlaces.l0 k s T (T.length : Int) (i : Int) = some s' := by
  induction d with
  | zero =>
    intro k i s hi hd hs hk
    obtain ⟨k, rfl⟩ : ∃ j, k = j + 1 := ⟨k - 1, by omega⟩
    rw [List.take_of_length_le (by omega)] at hs
    refine ⟨s, hs, ?_⟩
    simp only [impl_usedPlaces.l0]
    rw [if_neg (by omega)]
  | succ d ih =>
    intro k i s hi hd hs hk
    obtain ⟨k, rfl⟩ : ∃ j, k = j + 5 := ⟨k - 5, by omega⟩
    have hil : i < T.length := by omega
    obtain ⟨a, b, c, et, ha, hb, hc, _⟩ := tri_natE (List.all_eq_true.1 ht T[i] (List.getElem_mem hil))
    obtain ⟨s1, hs1, e1⟩ := u1_all k n s _ hs T (T.length : Int) (i : Int) a b c ha hb hc
    simp only [impl_usedPlaces.l0]
    rw [if_pos (by omega), if_pos (by omega), if_pos (by omega), rdL T i hil, et]
    rw [show ((([(a : Int), (b : Int), (c : Int)] : List Int).length : Nat) : Int) = 3 from rfl]
    rw [e1, up i (by omega)]
    have hw : placesL (T.take (i + 1)) = placesL (T.take i) ++ [a, b, c] := by
      rw [List.take_succ_eq_append_getElem hil, et, placesL_snoc]
      rfl
    exact ih k (i + 1) s1 (by omega) (by omega) (by rw [hw]; exact hs1) (by omega)

theorem mark_used {n : Nat} {T : List (List Int)} (ht : T.all (triB n) = true) {s : List Bool} (h : Mark n (placesL T) s) : s = usedL n T := by
  apply List.ext_getElem (by rw [h.1, usedL_len])
  intro i h1 h2
  have := h.2 i (by rw [← h.1]; exact h1)
  rw [List.getD_eq_getElem?_getD, List.getElem?_eq_getElem h1, Option.getD_some] at this
  rw [this]
  have e : (usedL n T)[i] = isE T i i := by simp [usedL]
  rw [e, Bool.eq_iff_iff, decide_eq_true_eq]
  exact mem_places ht i

theorem used_f (Q : List S42) (T : List (List Int)) (hv : validB Q.length T = true) : impl_usedPlaces.f 1000 Q T = some (usedL Q.length T) := by
  obtain ⟨hn, hT, ht⟩ := validB_iff.1 hv
  unfold impl_usedPlaces.f
  rw [if_pos (by omega), Int.toNat_natCast, if_pos (by omega)]
  obtain ⟨s, h1, h2⟩ := u0_loop Q.length T hT ht T.length 1000 0 _ (by omega) (by omega) (by simpa [placesL] using Mark.start Q.length) (by omega)
  rw [show ((0 : Nat) : Int) = 0 from rfl] at h2
  rw [h2, mark_used ht h1]

/-! ### the list of edges that the program makes -/
/-- The first of each. -/
def firsts : List (Nat × Nat) → List (Nat × Nat) := List.foldl (fun l e => if e ∈ l then l else l ++ [e]) []
theorem firsts_snoc (l : List (Nat × Nat)) (e : Nat × Nat) : firsts (l ++ [e]) = if e ∈ firsts l then firsts l else firsts l ++ [e] := by
  unfold firsts
  rw [List.foldl_append]
  rfl
theorem firsts_spec (l : List (Nat × Nat)) : (firsts l).Nodup ∧ ∀ e, e ∈ firsts l ↔ e ∈ l := by
  have key : ∀ r : List (Nat × Nat), (firsts r.reverse).Nodup ∧ ∀ e, e ∈ firsts r.reverse ↔ e ∈ r.reverse := by
    intro r
    induction r with
    | nil => simp [firsts]
    | cons x r ih =>
      obtain ⟨h1, h2⟩ := ih
      rw [List.reverse_cons, firsts_snoc]
      by_cases h : x ∈ firsts r.reverse
      · rw [if_pos h]
        refine ⟨h1, fun e => ?_⟩
        rw [h2 e, List.mem_append]
        have := (h2 x).1 h
        constructor
        · exact Or.inl
        · rintro (h | h)
          · exact h
          · simp at h; rw [h]; exact this
      · rw [if_neg h]
        refine ⟨?_, fun e => ?_⟩
        · rw [List.nodup_append]
          refine ⟨h1, by simp, fun a ha b hb => ?_⟩
          rintro rfl
          simp at hb
          exact h (hb ▸ ha)
        · rw [List.mem_append, List.mem_append, h2 e]
  have := key l.reverse
  rwa [List.reverse_reverse] at this
theorem firsts_len_le (l : List (Nat × Nat)) : (firsts l).length ≤ l.length := by
  have key : ∀ r : List (Nat × Nat), (firsts r.reverse).length ≤ r.reverse.length := by
    intro r
    induction r with
    | nil => simp [firsts]
    | cons x r ih =>
      rw [List.reverse_cons, firsts_snoc, List.length_append]
      split
      · omega
      · rw [List.length_append]; simp only [List.length_cons, List.length_nil]; omega
  have := key l.reverse
  rwa [List.reverse_reverse] at this
theorem nodup_same_len {l m : List (Nat × Nat)} (hl : l.Nodup) (hm : m.Nodup) (h : ∀ e, e ∈ l ↔ e ∈ m) : l.length = m.length :=
  ((List.perm_ext_iff_of_nodup hl hm).2 h).length_eq
theorem firsts_edges {n : Nat} {T : List (List Int)} (h : T.all (triB n) = true) : (firsts ((tways T).map edgeN)).length = edgesC n T :=
  nodup_same_len (firsts_spec _).1 (edgesP_nodup n T) (fun e => by rw [(firsts_spec _).2 e, edges_iff h e])
end Go.Proofs.Ytepilofcionekaa.Msh
namespace Go.Proofs.Ytepilofcionekaa
open Go.RowKit Go.Proofs.YtepilofcionekaaW.PrintWords Go.Proofs.YtepilofcionekaaW.PrintLast Go.Proofs.YtepilofcionekaaW.PrintMore Go.Proofs.Ytepilofcionekaa.PMesh Msh Mp
set_option linter.unusedVariables false

/-- A row of edges of the call's own; never nil. -/
def ListE (W : World) (base : Nat) (v : Value) (l : List (Nat × Nat)) : Prop := W.ownsRow base 106 2 v l.length (l.flatMap ecells) ∧ v ≠ .slice none 0 0
theorem ListE.form {W : World} {base : Nat} {v : Value} {l : List (Nat × Nat)} (h : ListE W base v l) : ∃ g cap cur, v = .slice (some ⟨g, 0, none⟩) l.length cap ∧ base ≤ g ∧ W.heap[g]? = some (.cells cur 106 (0, 0)) ∧ cur.toList.take (l.length * 2) = l.flatMap ecells := by
  rcases h.1.2 with ⟨e, _⟩ | ⟨g, cap, cur, e, hb, hg, _, _, _, ht⟩
  · exact absurd e h.2
  · exact ⟨g, cap, cur, e, hb, hg, ht⟩
theorem ListE.made (w : World) {base : Nat} (hb : base ≤ w.heap.size) : ListE (w.alloc (.cells #[] 106)) base (.slice (some ⟨w.heap.size, 0, none⟩) 0 0) [] :=
  ⟨World.ownsRow_made w #[] 0 hb (Nat.zero_le _) rfl, by simp⟩
theorem ListE.kept {W W' : World} {base : Nat} {v : Value} {l : List (Nat × Nat)} {row : Option Nat} (h : ListE W base v l) (hg : W.grownBy W' row) (hne : v.ownBlock ≠ row) : ListE W' base v l := ⟨h.1.kept hg (.inr hne), h.2⟩
theorem ListE.block {W : World} {base : Nat} {v : Value} {l : List (Nat × Nat)} (h : ListE W base v l) : ∃ g, v.ownBlock = some g ∧ base ≤ g ∧ g < W.heap.size ∧ ∃ cur, W.heap[g]? = some (.cells cur 106 (0, 0)) := by
  obtain ⟨g, cap, cur, rfl, hb, hg, _⟩ := h.form
  exact ⟨g, rfl, hb, blk_lt hg, cur, hg⟩
theorem ListE.below {W W' : World} {base : Nat} {v : Value} {l : List (Nat × Nat)} (h : ListE W base v l) (hb : Below W.heap.size W W') : ListE W' base v l := by
  refine h.kept (grown_of_below hb none) ?_
  obtain ⟨g, e, _⟩ := h.block
  rw [e]; simp
/-- A block that the list does not lie in is written. -/
theorem ListE.put {W W' : World} {base : Nat} {v : Value} {l : List (Nat × Nat)} (h : ListE W base v l) (hk : ∀ k, k < W.heap.size → v.ownBlock = some k → W'.heap[k]? = W.heap[k]?) : ListE W' base v l := by
  obtain ⟨h1, h2⟩ := h
  refine ⟨⟨h1.1, ?_⟩, h2⟩
  rcases h1.2 with hn | ⟨g, cap, cur, rfl, hb, hgg, rest⟩
  · exact .inl hn
  · exact .inr ⟨g, cap, cur, rfl, hb, (hk g (blk_lt hgg) rfl).trans hgg, rest⟩
theorem ListE.append {W : World} {base : Nat} {v : Value} {l : List (Nat × Nat)} (ty : TypeId) (h : ListE W base v l) (hl : l.length ≤ 1000000) (hbase : base ≤ W.heap.size) (e1 e2 : Nat) :
    ∃ v1 w1, (Builtin.append_ #[96, 96] ty #[v, .slice (some ⟨W.heap.size, 0, none⟩) 1 1]).run Try.prog (W.alloc (.cells #[.int .i64 (e1 : Int), .int .i64 (e2 : Int)] 106)) = .ok v1 w1 ∧ ListE w1 base v1 (l ++ [(e1, e2)]) ∧ W.grownBy w1 v.ownBlock ∧ (v1.ownBlock = v.ownBlock ∨ ∃ b, v1.ownBlock = some b ∧ W.heap.size ≤ b) := by
  obtain ⟨i0, hi, hzz⟩ := Option.map_eq_some_iff.1 edge_info
  simp only [Prod.mk.injEq] at hzz
  obtain ⟨hz0, hz1, hz2⟩ := hzz
  have hx0 : (W.alloc (.cells #[.int .i64 (e1 : Int), .int .i64 (e2 : Int)] 106)).cell? ⟨W.heap.size, 0, none⟩ = some (.int .i64 (e1 : Int)) := (BoxAt.new W 106 (.int .i64 (e1 : Int)) (.int .i64 (e2 : Int))).c0
  have hx1 : (W.alloc (.cells #[.int .i64 (e1 : Int), .int .i64 (e2 : Int)] 106)).cell? ⟨W.heap.size, 1, none⟩ = some (.int .i64 (e2 : Int)) := (BoxAt.new W 106 (.int .i64 (e1 : Int)) (.int .i64 (e2 : Int))).c1
  have ha := h.1.alloc (.cells #[.int .i64 (e1 : Int), .int .i64 (e2 : Int)] 106)
  have hsz : (W.alloc (.cells #[.int .i64 (e1 : Int), .int .i64 (e2 : Int)] 106)).heap.size = W.heap.size + 1 := by simp
  obtain ⟨v1, w1, r, hown, hg, hnil, hat⟩ := run_append_own_at (P := Try.prog) _ base 96 ty 106 i0 _ 2 16 Try.underlying96 hi hz0 hz1 hz2 rfl (by omega) v l.length (l.flatMap ecells) ha ⟨W.heap.size, 0, none⟩ 1 1 [.int .i64 (e1 : Int), .int .i64 (e2 : Int)] rfl
    (by intro j u hu
        rcases j with _ | _ | j
        · simp at hu; subst hu; rw [Addr.add_zero']; exact hx0
        · simp at hu; subst hu; exact hx1
        · simp at hu) (by intro u hu; simp at hu; rcases hu with rfl | rfl <;> rfl) (by simp only [maxLen]; omega) (by omega) (by omega)
  refine ⟨v1, w1, r, ⟨?_, fun e => h.2 (hnil.1 e).1⟩, (World.grownBy_alloc W _ _).trans hg, ?_⟩
  · have e : (l ++ [(e1, e2)]).flatMap ecells = l.flatMap ecells ++ [.int .i64 (e1 : Int), .int .i64 (e2 : Int)] := by rw [List.flatMap_append]; rfl
    rw [e, List.length_append]
    exact hown
  · rcases hat with hat | hat
    · exact .inl hat
    · exact .inr ⟨_, hat, by omega⟩

section
variable {P : Program} {ops : Array Oper} {rest : List Oper} {o : Oper} {a : Act} {Q : Exit → Act → World → Prop} {W : World}
theorem append_eq (hgd : o.guard = none) (s x : Operand) (t : TypeId) (ho : o.op = .call { callee := .builtin .append, args := #[s, x], argTypes := #[t, t] }) (v u v1 : Value) (w1 : World) (hs : a.eval s = v) (hx : a.eval x = u)
    (hr : (Builtin.append_ #[t, t] o.type #[v, u]).run P W = .ok v1 w1) (h : wpList P ops Q rest (a.put o.dst v1) w1) : wpList P ops Q (o :: rest) a W := by
  refine wpList_plain hgd fun K hK => ?_
  unfold Oper.wp execOp
  simp only [ho, resolve, invoke, builtin, Sem.run_bind, Sem.run_pure, Result.andThen_ok, List.map_toArray, List.map_cons, List.map_nil, hs, hx, hr]
  exact hK _ _ h
end
end Go.Proofs.Ytepilofcionekaa
namespace Go.Proofs.Ytepilofcionekaa
open Go.RowKit Go.Proofs.YtepilofcionekaaW.PrintWords Go.Proofs.YtepilofcionekaaW.PrintLast Go.Proofs.YtepilofcionekaaW.PrintMore Go.Proofs.Ytepilofcionekaa.PMesh Msh Mp
set_option linter.unusedVariables false
set_option linter.unusedSimpArgs false

theorem grown_setC (w : World) (p : Addr) (v : Value) : w.grownBy (w.setCell p v) (some p.block) := ⟨rfl, rfl, rfl, by simp [World.setCell], fun i _ hi => Below.heap_setCell w p v i (fun e => hi (by rw [e]))⟩
theorem firsts_snoc_new (l : List (Nat × Nat)) (e : Nat × Nat) (h : ¬ e ∈ l) : firsts (l ++ [e]) = firsts l ++ [e] := by
  rw [firsts_snoc, if_neg (fun h' => h (((firsts_spec l).2 e).1 h'))]
theorem firsts_snoc_old (l : List (Nat × Nat)) (e : Nat × Nat) (h : e ∈ l) : firsts (l ++ [e]) = firsts l := by
  rw [firsts_snoc, if_pos (((firsts_spec l).2 e).2 h)]
theorem cntE_zero (ps : List (Nat × Nat)) (e : Nat × Nat) : cntE ps e = 0 ↔ ¬ e ∈ ps.map edgeN := by
  unfold cntE
  exact List.count_eq_zero

set_option maxHeartbeats 8000000 in
set_option maxRecDepth 100000 in
theorem impl_trianglesByEdge (A : Option Addr) (c : Nat) (Q : List S42) (B : Option Addr) (e : Nat) (T : List (List Int)) (w : World) (hT : Kd.C (Kd.slice 2 (Kd.int .i64)) w B T.length T) (hv : validB Q.length T = true) :
    Calls Try.prog 74 #[.agg #[.slice A Q.length c, .slice B T.length e]] w fun E w' => (∃ m A' c', E = .returned (.tuple #[m, .slice A' (edgesC Q.length T) c'])) ∧ Below w.heap.size w w' := by
  have hb0 := below_alloc (Below.refl w.heap.size w) (.cells #[.slice A Q.length c, .slice B T.length e] 27)
  have hbx := BoxAt.new w 27 (.slice A Q.length c) (.slice B T.length e)
  have B0 := Lib.hid hb0
  have X0 := Lib.hid (hbx.below (below_alloc (below_alloc (Below.refl _ _) (.map #[] 0)) (.cells #[] 106)))
  have x1 := X0.out.c1
  obtain ⟨hn, ht, hta⟩ := validB_iff.1 hv
  have HTR := Lib.hid (valid_triE hv)
  have HT := Lib.hid hT
  have hmk := @run_makeMap Try.prog
  have HFE := Lib.hid (firsts_edges hta)
  obtain ⟨w0, hw0⟩ : ∃ W, W = w.alloc (.cells #[.slice A Q.length c, .slice B T.length e] 27) := ⟨_, rfl⟩
  have hs0 : w0.heap.size = w.heap.size + 1 := by rw [hw0]; simp
  have hs1 : (w0.alloc (.map #[] 0)).heap.size = w.heap.size + 1 + 1 := by simp [hs0]
  have M0 : MapR (w0.alloc (.map #[] 0)) w.heap.size (w.heap.size + 1) 0 (fun _ => 0) := hs0 ▸ MapR.made w0 w.heap.size
  have M1 := Lib.hid (M0.below (below_alloc (Below.refl _ _) (.cells #[] 106)))
  have L1 : ListE ((w0.alloc (.map #[] 0)).alloc (.cells #[] 106)) w.heap.size (.slice (some ⟨w.heap.size + 1 + 1, 0, none⟩) 0 0) [] := hs1 ▸ ListE.made (w0.alloc (.map #[] 0)) (by omega)
  replace L1 := Lib.hid L1
  have B1 := Lib.hid (show Below w.heap.size w ((w0.alloc (.map #[] 0)).alloc (.cells #[] 106)) from below_step (hw0 ▸ B0.out) (below_alloc (below_alloc (Below.refl _ _) _) _))
  rw [hw0] at M1 L1 B1
  clear hb0 hbx hT hv hta hs0 hs1 M0 hw0 w0
  generalize Q.length = n at *
  go_enter Try.func74, Try.ntmps74
  go_wp2_with fail
  obtain ⟨w2, hw2⟩ : ∃ W, W = ((w.alloc (.cells #[.slice A n c, .slice B T.length e] 27)).alloc (.map #[] 0)).alloc (.cells #[] 106) := ⟨_, rfl⟩
  rw [← hw2] at M1 L1 B1 ⊢
  clear hw2 x1 X0 B0 hmk
  obtain ⟨gm, hgm⟩ : ∃ x, x = w.heap.size + 1 := ⟨_, rfl⟩
  have hgm1 : w.heap.size ≤ gm := by omega
  obtain ⟨gl, hgl⟩ : ∃ x, x = w.heap.size + 1 + 1 := ⟨_, rfl⟩
  rw [← hgm] at M1
  rw [← hgl] at L1
  replace M1 := Lib.hid (show MapR w2 w.heap.size gm (3 * 0) (cntE (tways (T.take 0))) from M1.out)
  replace L1 := Lib.hid (show ListE w2 w.heap.size (.slice (some ⟨gl, 0, none⟩) 0 0) (firsts ((tways (T.take 0)).map edgeN)) from L1.out)
  try rw [← hgl]
  try rw [← hgm]
  clear hgm hgl
  go_loopw [5, 15] (fun l5 k wr => ∃ i : Nat, i ≤ T.length ∧ k = .int .i64 (i : Int) ∧ Hid (Below w.heap.size w wr) ∧ Hid (MapR wr w.heap.size gm (3 * i) (cntE (tways (T.take i)))) ∧ Hid (ListE wr w.heap.size l5 (firsts ((tways (T.take i)).map edgeN)))) (fun _ k _ => T.length - (intOf k).toNat)
  case atStart => exact ⟨0, Nat.zero_le _, rfl, B1, M1, L1⟩
  case round =>
    clear B1 M1 L1
    obtain ⟨i, hi, rfl, HB, HM, HL⟩ := hrel
    by_cases hlt : i < T.length
    · have b1 : (i : Int) < (T.length : Int) := by omega
      have b2 : (0 : Int) ≤ (i : Int) := by omega
      have b3 : (i : Int) < 9223372036854775807 := by omega
      obtain ⟨ba, C, cc, rfl, tc, hcc, hC⟩ := at_L3 HT.out (i : Int) (by omega) (by omega)
      rw [rdL T i hlt] at tc hcc hC
      rw [Int.toNat_natCast] at tc
      obtain ⟨a1, a2, a3, et, h1, h2, h3, _⟩ := tri_natE (HTR.out T[i] (List.getElem_mem hlt))
      have htk : tways (T.take (i + 1)) = tways (T.take i) ++ [(a1, a2), (a2, a3), (a3, a1)] := by
        rw [List.take_succ_eq_append_getElem hlt, et, ways_snoc, ways3_nat]
      rw [et] at tc hcc hC
      replace tc : wr.cell? (ba.add i) = some (.slice C 3 cc) := oldc HB.out tc
      obtain ⟨ad, rfl, _⟩ := Kd.at_int hC 0 (by omega) (by simp)
      have HC := Lib.hid hC
      have HK := Lib.hid htk
      have htl : (tways (T.take i)).length = 3 * i := by rw [ways_len, List.length_take]; omega
      generalize tways (T.take i) = pr at *
      clear et htk hC hcc
      go_wp2_with fail
      clear tc
      go_loopw [5, 20] (fun l5 k wq => ∃ j : Nat, j ≤ 3 ∧ k = .int .i64 (j : Int) ∧ Hid (Below w.heap.size w wq) ∧ Hid (MapR wq w.heap.size gm (3 * i + j) (cntE (pr ++ [(a1, a2), (a2, a3), (a3, a1)].take j))) ∧ Hid (ListE wq w.heap.size l5 (firsts ((pr ++ [(a1, a2), (a2, a3), (a3, a1)].take j).map edgeN)))) (fun _ k _ => 3 - (intOf k).toNat)
      case atStart => exact ⟨0, Nat.zero_le _, rfl, HB, by simpa using HM, by simpa using HL⟩
      case round =>
        clear HB HM HL b1 b2 b3
        obtain ⟨j, hj, rfl, HB, HM, HL⟩ := hrel
        by_cases hjl : j < 3
        · have b1 : (j : Int) < 3 := by omega
          have b2 : (0 : Int) ≤ (j : Int) := by omega
          have b3 : (j : Int) < 9223372036854775807 := by omega
          obtain ⟨p, q, j1, hj1, hjm, hp, hq, hpn, hqn, hnx⟩ : ∃ p q j1 : Nat, j1 < 3 ∧ Int.tmod (wrap64 ((j : Int) + 1)) 3 = (j1 : Int) ∧ rd [(a1 : Int), (a2 : Int), (a3 : Int)] (j : Int) = (p : Int) ∧ rd [(a1 : Int), (a2 : Int), (a3 : Int)] (j1 : Int) = (q : Int) ∧ p < n ∧ q < n ∧ [(a1, a2), (a2, a3), (a3, a1)].take (j + 1) = [(a1, a2), (a2, a3), (a3, a1)].take j ++ [(p, q)] := by
            rcases (by omega : j = 0 ∨ j = 1 ∨ j = 2) with rfl | rfl | rfl
            · exact ⟨a1, a2, 1, by omega, by rw [wrap_fit (by omega) (by omega)]; rfl, rfl, rfl, h1, h2, rfl⟩
            · exact ⟨a2, a3, 2, by omega, by rw [wrap_fit (by omega) (by omega)]; rfl, rfl, rfl, h2, h3, rfl⟩
            · exact ⟨a3, a1, 0, by omega, by rw [wrap_fit (by omega) (by omega)]; rfl, rfl, rfl, h3, h1, rfl⟩
          have HJM := Lib.hid hjm
          clear hjm
          obtain ⟨_, e0, cp⟩ := Kd.at_int HC.out (j : Int) b2 (by simp; omega)
          cases e0
          obtain ⟨_, e0, cq⟩ := Kd.at_int HC.out (j1 : Int) (by omega) (by simp; omega)
          cases e0
          rw [Int.toNat_natCast, hp] at cp
          rw [Int.toNat_natCast, hq] at cq
          have cp := Lib.hid cp
          have cq := Lib.hid cq
          have hpl : (pr ++ [(a1, a2), (a2, a3), (a3, a1)].take j).length = 3 * i + j := by simp; omega
          have HNX : Hid (pr ++ [(a1, a2), (a2, a3), (a3, a1)].take (j + 1) = (pr ++ [(a1, a2), (a2, a3), (a3, a1)].take j) ++ [(p, q)]) := Lib.hid (by rw [hnx, List.append_assoc])
          generalize pr ++ [(a1, a2), (a2, a3), (a3, a1)].take j = ps at *
          obtain ⟨e1, e2, hee⟩ : ∃ e1 e2, edgeN (p, q) = (e1, e2) := ⟨_, _, rfl⟩
          have he1 : e1 < n := by have := congrArg Prod.fst hee; simp only [edgeN] at this; omega
          have he2 : e2 < n := by have := congrArg Prod.snd hee; simp only [edgeN] at this; omega
          have hes : Small (e1, e2) := ⟨by show e1 ≤ 1000; omega, by show e2 ≤ 1000; omega⟩
          have HED := Lib.hid (fun W => by have := impl_edgeOf p q W; rw [hee] at this; exact this : ∀ W : World, Calls Try.prog 80 #[.int .i64 (p : Int), .int .i64 (q : Int)] W fun E w' => E = .returned (.agg #[.int .i64 (e1 : Int), .int .i64 (e2 : Int)]) ∧ Below W.heap.size W w')
          have HEE := Lib.hid hee
          have hcl := cntE_len ps (e1, e2)
          have hfl : (firsts (ps.map edgeN)).length ≤ 1000000 := by have := firsts_len_le (ps.map edgeN); rw [List.length_map] at this; omega
          have c1 : (j1 : Int) < 3 := by omega
          have c2 : (0 : Int) ≤ (j1 : Int) := by omega
          clear hee hp hq hnx
          go_wp2_with fail
          have hjm := HJM.out
          have d_B := Below.drew HB.out
          have d_M := HM.out.below (Below.drew (Below.refl _ _))
          have d_L := HL.out.below (Below.drew (Below.refl _ _))
          clear HB HM HL
          refine start_ (n := 13) (S := fun w' => w'.cell? (ad.add j) = some (.int .i64 (p : Int)) ∧ w'.cell? (ad.add j1) = some (.int .i64 (q : Int))) (ds := [12]) #[false, false, false, false, false, false, false, false, false, false, false, false, false] (by kernel_rfl) rfl rfl ⟨oldc d_B cp.out, oldc d_B cq.out⟩ (fun hHeld => ?_)
          generalize wr.drew = w10 at d_B d_M d_L hHeld ⊢
          refine pure_ (i := 0) (N := (some 23)) (v := ?_) (a' := ?_) #[true, false, false, false, false, false, false, false, false, false, false, false, false] rfl rfl (by kernel_rfl) (fun _ _ _ h => h) (Or.inl ⟨by rfl, ?_⟩) ?_ ?_
          rotate_left
          · intro w'
            go_simp
            with_reducible rfl
          rotate_left
          · simp only [Act.put, List.setIfInBounds_toArray, List.set_cons_zero, List.set_cons_succ, i64_w, i32_w]; rfl
          refine pure_ (i := 1) (N := (some 24)) (v := ?_) (a' := ?_) #[true, true, false, false, false, false, false, false, false, false, false, false, false] rfl rfl (by kernel_rfl) (fun _ _ _ h => h) (Or.inl ⟨by rfl, ?_⟩) ?_ ?_
          rotate_left
          · intro w'
            go_simp
            with_reducible rfl
          rotate_left
          · simp only [Act.put, List.setIfInBounds_toArray, List.set_cons_zero, List.set_cons_succ, i64_w, i32_w]; rfl
          refine pure_ (i := 2) (N := (some 25)) (v := ?_) (a' := ?_) #[true, true, true, false, false, false, false, false, false, false, false, false, false] rfl rfl (by kernel_rfl) (fun _ _ _ h => h) (Or.inl ⟨by rfl, ?_⟩) ?_ ?_
          rotate_left
          · intro w'
            go_simp
            with_reducible rfl
          rotate_left
          · simp only [Act.put, List.setIfInBounds_toArray, List.set_cons_zero, List.set_cons_succ, i64_w, i32_w]; rfl
          refine pure_ (i := 4) (N := (some 27)) (v := ?_) (a' := ?_) #[true, true, true, false, true, false, false, false, false, false, false, false, false] rfl rfl (by kernel_rfl) (fun _ _ _ h => h) (Or.inl ⟨by rfl, ?_⟩) ?_ ?_
          rotate_left
          · intro w'
            go_simp
            with_reducible rfl
          rotate_left
          · simp only [Act.put, List.setIfInBounds_toArray, List.set_cons_zero, List.set_cons_succ, i64_w, i32_w]; rfl
          refine pure_ (i := 5) (N := (some 28)) (v := ?_) (a' := ?_) #[true, true, true, false, true, true, false, false, false, false, false, false, false] rfl rfl (by kernel_rfl) (fun _ _ _ h => h) (Or.inl ⟨by rfl, ?_⟩) ?_ ?_
          rotate_left
          · intro w'
            go_simp
            with_reducible rfl
          rotate_left
          · simp only [Act.put, List.setIfInBounds_toArray, List.set_cons_zero, List.set_cons_succ, i64_w, i32_w]; rfl
          refine pure_ (i := 6) (N := (some 29)) (v := ?_) (a' := ?_) #[true, true, true, false, true, true, true, false, false, false, false, false, false] rfl rfl (by kernel_rfl) (fun _ _ _ h => h) (Or.inl ⟨by rfl, ?_⟩) ?_ ?_
          rotate_left
          · intro w'
            go_simp
            with_reducible rfl
          rotate_left
          · simp only [Act.put, List.setIfInBounds_toArray, List.set_cons_zero, List.set_cons_succ, i64_w, i32_w]; rfl
          refine pure_ (i := 7) (N := (some 30)) (v := ?_) (a' := ?_) #[true, true, true, false, true, true, true, true, false, false, false, false, false] rfl rfl (by kernel_rfl) (fun _ _ _ h => h) (Or.inl ⟨by rfl, ?_⟩) ?_ ?_
          rotate_left
          · intro w'
            go_simp
            with_reducible rfl
          rotate_left
          · simp only [Act.put, List.setIfInBounds_toArray, List.set_cons_zero, List.set_cons_succ, i64_w, i32_w]; rfl
          refine pure_ (i := 8) (N := (some 31)) (v := ?_) (a' := ?_) #[true, true, true, false, true, true, true, true, true, false, false, false, false] rfl rfl (by kernel_rfl) (fun _ _ _ h => h) (Or.inl ⟨by rfl, ?_⟩) ?_ ?_
          rotate_left
          · intro w'
            go_simp
            with_reducible rfl
          rotate_left
          · simp only [Act.put, List.setIfInBounds_toArray, List.set_cons_zero, List.set_cons_succ, i64_w, i32_w]; rfl
          refine take_ (i := 3) (N := (some 26)) (v := ?_) (a' := ?_) #[true, true, true, true, true, true, true, true, true, false, false, false, false] rfl rfl (by kernel_rfl) (fun _ _ _ h => h) (Or.inl ⟨by rfl, ?_⟩) hHeld ?_ ?_
          rotate_left
          · intro w' hSw
            (try dsimp only at hSw)
            go_simp
            with_reducible rfl
          rotate_left
          · simp only [Act.put, List.setIfInBounds_toArray, List.set_cons_zero, List.set_cons_succ, i64_w, i32_w]; rfl
          refine take_ (i := 9) (N := (some 32)) (v := ?_) (a' := ?_) #[true, true, true, true, true, true, true, true, true, true, false, false, false] rfl rfl (by kernel_rfl) (fun _ _ _ h => h) (Or.inl ⟨by rfl, ?_⟩) hHeld ?_ ?_
          rotate_left
          · intro w' hSw
            (try dsimp only at hSw)
            go_simp
            with_reducible rfl
          rotate_left
          · simp only [Act.put, List.setIfInBounds_toArray, List.set_cons_zero, List.set_cons_succ, i64_w, i32_w]; rfl
          refine join_ (σ := Nat) 1 #[true, true, true, true, true, true, true, true, true, true, true, true, false] (fun s_ => [(33, .agg #[.int .i64 (e1 : Int), .int .i64 (e2 : Int)]), (9, .pointer (some ⟨s_, 0, none⟩))]) (fun s_ w' => (Below w.heap.size w w') ∧ (MapR w' w.heap.size gm (3 * i + j) (cntE ps)) ∧ (ListE w' w.heap.size u5 (firsts (ps.map edgeN))) ∧ (BoxAt w' s_ 106 (.int .i64 0) (.int .i64 0)) ∧ (w.heap.size ≤ s_) ∧ (u5.ownBlock ≠ some s_)) ?_ ?_
          rotate_left
          · intro hN_C_A
            refine join_ (σ := Unit) 2 #[true, true, true, true, true, true, true, true, true, true, true, false, false] (fun s_ => [(33, .agg #[.int .i64 (e1 : Int), .int .i64 (e2 : Int)])]) (fun s_ w' => (Below w.heap.size w w') ∧ (MapR w' w.heap.size gm (3 * i + j) (cntE ps)) ∧ (ListE w' w.heap.size u5 (firsts (ps.map edgeN)))) ?_ ?_
            · skip
              rintro ⟨⟩ wn ⟨f_B, f_M, f_L⟩
              replace f_B : Below w.heap.size w wn := f_B
              replace f_M : MapR wn w.heap.size gm (3 * i + j) (cntE ps) := f_M
              replace f_L : ListE wn w.heap.size u5 (firsts (ps.map edgeN)) := f_L
              refine norm_ (a' := ?_) ?_ ?_
              rotate_left
              · simp only [putAll, Act.put, List.setIfInBounds_toArray, List.set_cons_zero, List.set_cons_succ]; rfl
              refine one_ (i := 11) (N := (some 9)) #[true, true, true, true, true, true, true, true, true, true, true, true, false] rfl rfl (by kernel_rfl) (by decide) (fun K hK => ?_)
              refine box_step ?hg (N := 9) ?hd (cs := #[.int .i64 0, .int .i64 0]) (t := 106) ?hr ?_; (case hd => rfl); (case hg => rfl); (case hr => first | (go_simp; done) | (go_simp; rfl))
              intro g9 hgn wz hbox hb
              have m_D : BoxAt wz g9 106 (.int .i64 0) (.int .i64 0) := hbox
              have m_q : w.heap.size ≤ g9 := by rw [hgn]; exact f_B.size
              have m_n : u5.ownBlock ≠ some g9 := by obtain ⟨gb, e, _, hlt, _⟩ := f_L.block; rw [e, hgn]; intro h; have := Option.some.inj h; omega
              have m_B := below_step f_B hb
              have m_M := f_M.below hb
              have m_L := f_L.below hb
              refine hK.out _ _ ⟨oldc m_B cp.out, oldc m_B cq.out⟩ (fun hHeld => ?_)
              clear hK K
              refine norm_ (a' := ?_) ?_ ?_
              rotate_left
              · show Act.put _ (some 9) _ = _
                simp only [Act.put, List.setIfInBounds_toArray, List.set_cons_zero, List.set_cons_succ, i64_w, i32_w]
                rfl
              exact norm_ (by simp only [putAll, Act.put, List.setIfInBounds_toArray, List.set_cons_zero, List.set_cons_succ]) (hN_C_A (g9) _ ⟨m_B, m_M, m_L, m_D, m_q, m_n⟩)
            intro hN_C
            refine join_ (σ := Nat) 2 #[true, true, true, true, true, true, true, true, true, true, false, true, false] (fun s_ => [(9, .pointer (some ⟨s_, 0, none⟩))]) (fun s_ w' => (Below w.heap.size w w') ∧ (MapR w' w.heap.size gm (3 * i + j) (cntE ps)) ∧ (ListE w' w.heap.size u5 (firsts (ps.map edgeN))) ∧ (BoxAt w' s_ 106 (.int .i64 0) (.int .i64 0)) ∧ (w.heap.size ≤ s_) ∧ (u5.ownBlock ≠ some s_)) ?_ ?_
            · skip
              rintro g9 wn ⟨f_B, f_M, f_L, f_D, f_q, f_n⟩
              replace f_B : Below w.heap.size w wn := f_B
              replace f_M : MapR wn w.heap.size gm (3 * i + j) (cntE ps) := f_M
              replace f_L : ListE wn w.heap.size u5 (firsts (ps.map edgeN)) := f_L
              replace f_D : BoxAt wn g9 106 (.int .i64 0) (.int .i64 0) := f_D
              replace f_q : w.heap.size ≤ g9 := f_q
              replace f_n : u5.ownBlock ≠ some g9 := f_n
              refine norm_ (a' := ?_) ?_ ?_
              rotate_left
              · simp only [putAll, Act.put, List.setIfInBounds_toArray, List.set_cons_zero, List.set_cons_succ]; rfl
              refine one_ (i := 10) (N := (some 33)) #[true, true, true, true, true, true, true, true, true, true, true, true, false] rfl rfl (by kernel_rfl) (by decide) (fun K hK => ?_)
              refine goes_ Try.func80 (by kernel_rfl) rfl #[.int .i64 (p : Int), .int .i64 (q : Int)] (by rfl) rfl rfl (by (try simp only [List.map_toArray, List.map_cons, List.map_nil]); first | done | rfl) ?_
              refine (HED.out _).mono ?_
              rintro E wz ⟨rfl, hb⟩
              refine ⟨_, rfl, ?_⟩
              have m_B := below_step f_B hb
              have m_M := f_M.below hb
              have m_L := f_L.below hb
              have m_D := f_D.below hb
              have m_q := f_q
              have m_n := f_n
              refine hK.out _ _ ⟨oldc m_B cp.out, oldc m_B cq.out⟩ (fun hHeld => ?_)
              clear hK K
              refine norm_ (a' := ?_) ?_ ?_
              rotate_left
              · show Act.put _ (some 33) _ = _
                simp only [Act.put, List.setIfInBounds_toArray, List.set_cons_zero, List.set_cons_succ, i64_w, i32_w]
                rfl
              exact norm_ (by simp only [putAll, Act.put, List.setIfInBounds_toArray, List.set_cons_zero, List.set_cons_succ]) (hN_C_A (g9) _ ⟨m_B, m_M, m_L, m_D, m_q, m_n⟩)
            intro hN_A
            refine two_ (i := 10) (j := 11) (Ni := (some 33)) (Nj := (some 9)) #[true, true, true, true, true, true, true, true, true, true, true, false, false] #[true, true, true, true, true, true, true, true, true, true, false, true, false] rfl rfl rfl rfl (by kernel_rfl) (by decide) (by decide) (fun K hK => ?_) (fun K hK => ?_) 
            · skip
              refine goes_ Try.func80 (by kernel_rfl) rfl #[.int .i64 (p : Int), .int .i64 (q : Int)] (by rfl) rfl rfl (by (try simp only [List.map_toArray, List.map_cons, List.map_nil]); first | done | rfl) ?_
              refine (HED.out _).mono ?_
              rintro E wz ⟨rfl, hb⟩
              refine ⟨_, rfl, ?_⟩
              have m_B := below_step d_B hb
              have m_M := d_M.below hb
              have m_L := d_L.below hb
              refine hK.out _ _ ⟨oldc m_B cp.out, oldc m_B cq.out⟩ (fun hHeld => ?_)
              clear hK K
              refine norm_ (a' := ?_) ?_ ?_
              rotate_left
              · show Act.put _ (some 33) _ = _
                simp only [Act.put, List.setIfInBounds_toArray, List.set_cons_zero, List.set_cons_succ, i64_w, i32_w]
                rfl
              exact norm_ (by simp only [putAll, Act.put, List.setIfInBounds_toArray, List.set_cons_zero, List.set_cons_succ]) (hN_C () _ ⟨m_B, m_M, m_L⟩)
            · skip
              refine box_step ?hg (N := 9) ?hd (cs := #[.int .i64 0, .int .i64 0]) (t := 106) ?hr ?_; (case hd => rfl); (case hg => rfl); (case hr => first | (go_simp; done) | (go_simp; rfl))
              intro g9 hgn wz hbox hb
              have m_D : BoxAt wz g9 106 (.int .i64 0) (.int .i64 0) := hbox
              have m_q : w.heap.size ≤ g9 := by rw [hgn]; exact d_B.size
              have m_n : u5.ownBlock ≠ some g9 := by obtain ⟨gb, e, _, hlt, _⟩ := d_L.block; rw [e, hgn]; intro h; have := Option.some.inj h; omega
              have m_B := below_step d_B hb
              have m_M := d_M.below hb
              have m_L := d_L.below hb
              refine hK.out _ _ ⟨oldc m_B cp.out, oldc m_B cq.out⟩ (fun hHeld => ?_)
              clear hK K
              refine norm_ (a' := ?_) ?_ ?_
              rotate_left
              · show Act.put _ (some 9) _ = _
                simp only [Act.put, List.setIfInBounds_toArray, List.set_cons_zero, List.set_cons_succ, i64_w, i32_w]
                rfl
              exact norm_ (by simp only [putAll, Act.put, List.setIfInBounds_toArray, List.set_cons_zero, List.set_cons_succ]) (hN_A (g9) _ ⟨m_B, m_M, m_L, m_D, m_q, m_n⟩)
          rintro g9 wl ⟨f_B, f_M, f_L, f_D, f_q, f_n⟩
          replace f_B : Below w.heap.size w wl := f_B
          replace f_M : MapR wl w.heap.size gm (3 * i + j) (cntE ps) := f_M
          replace f_L : ListE wl w.heap.size u5 (firsts (ps.map edgeN)) := f_L
          replace f_D : BoxAt wl g9 106 (.int .i64 0) (.int .i64 0) := f_D
          replace f_q : w.heap.size ≤ g9 := f_q
          replace f_n : u5.ownBlock ≠ some g9 := f_n
          refine norm_ (a' := ?_) ?_ ?_
          rotate_left
          · simp only [putAll, Act.put, List.setIfInBounds_toArray, List.set_cons_zero, List.set_cons_succ]; rfl
          refine last_ (i := 12) (N := none) #[true, true, true, true, true, true, true, true, true, true, true, true, true] rfl rfl (by kernel_rfl) (by decide) (fun K hK => ?_)
          have s0 := f_D.c0; have s1 := f_D.c1; have z0 := blk_frozen f_D 0; have z1 := blk_frozen f_D 1
          refine skip_ (w1 := ?_) (by rfl) rfl ?_ ?_
          rotate_left
          · go_simp
            rfl
          refine hK.out _ _ ?_
          clear hK K
          clear s0 s1 z0 z1
          refine done_ (by kernel_rfl) ?_
          clear hjm hHeld b1 b2 b3 c1 c2
          have n1 : gm ≠ g9 := f_M.ne f_D
          obtain ⟨w4, hw4⟩ : ∃ W, W = (wl.setCell ⟨g9, 0, none⟩ (.int .i64 (e1 : Int))).setCell ⟨g9, 1, none⟩ (.int .i64 (e2 : Int)) := ⟨_, rfl⟩
          have hg4 : wl.grownBy w4 (some g9) := by rw [hw4]; exact (grown_setC wl ⟨g9, 0, none⟩ _).trans (grown_setC _ ⟨g9, 1, none⟩ _)
          have D4 := Lib.hid (show BoxAt w4 g9 106 (.int .i64 (e1 : Int)) (.int .i64 (e2 : Int)) by rw [hw4]; exact blk_put (blk_put f_D 0 _ rfl) 1 _ rfl)
          have B4 := Lib.hid (pw_below_grown f_B (some g9) f_B.size hg4 (fun k hk => by injection hk with hk; omega))
          have M4 := Lib.hid (f_M.kept hg4 f_D (by decide))
          have L4 := Lib.hid (f_L.kept hg4 f_n)
          rw [← hw4]
          clear hw4 hg4 f_B f_M f_L f_D
          have f_n := Lib.hid f_n
          obtain ⟨c, hcE⟩ : ∃ x, cntE ps (e1, e2) = x := ⟨_, rfl⟩
          rw [hcE] at hcl
          obtain ⟨Am, cm, hlk⟩ := M4.out.look (t := 95) Try.underlying95 hes
          rw [hcE] at hlk
          replace hlk : (Instr.lookup 95 (.map (some gm)) (.agg #[.int .i64 (e1 : Int), .int .i64 (e2 : Int)]) false).run Try.prog w4 = .ok (.slice Am c cm) w4 := hlk
          have HCE := Lib.hid hcE
          have HMP : Hid ((ps ++ [(p, q)]).map edgeN = ps.map edgeN ++ [(e1, e2)]) := Lib.hid (by rw [List.map_append]; simp [HEE.out])
          have d0 := D4.out.c0
          have d1 := D4.out.c1
          clear hcE
          by_cases hz : c = 0
          · subst hz
            have HF : Hid (firsts (ps.map edgeN ++ [(e1, e2)]) = firsts (ps.map edgeN) ++ [(e1, e2)]) := Lib.hid (firsts_snoc_new _ _ ((cntE_zero _ _).1 HCE.out))
            obtain ⟨l1, w6, hA, L6, g6, hat⟩ := L4.out.append 96 hfl B4.out.size e1 e2
            obtain ⟨gb, eb, hb1, hb2, curb, hb3⟩ := L4.out.block
            rw [eb] at g6 f_n
            have B_ := Lib.hid (pw_below_grown B4.out (some gb) B4.out.size g6 (fun k hk => by injection hk with hk; omega))
            have M_ := Lib.hid (M4.out.kept g6 hb3 (by decide))
            have D_ := Lib.hid (show BoxAt w6 g9 106 (.int .i64 (e1 : Int)) (.int .i64 (e2 : Int)) from blk_grown D4.out g6 (fun e => f_n.out e.symm))
            have L_ := Lib.hid (show ListE w6 w.heap.size l1 (firsts ((ps ++ [(p, q)]).map edgeN)) by rw [HMP.out, HF.out]; exact L6)
            clear L6 g6 hat eb hb1 hb2 hb3 B4 M4 L4
            obtain ⟨wb, hwb⟩ : ∃ W, W = w6.alloc (.cells #[.int .i64 (i : Int)] 2) := ⟨_, rfl⟩
            have hbb : Below w6.heap.size w6 wb := by rw [hwb]; exact below_alloc (Below.refl _ _) _
            have hgb : wb.heap[w6.heap.size]? = some (.cells #[.int .i64 (i : Int)] 2 (0, 0)) := by rw [hwb]; exact heap_alloc_new _ _
            have hcb : wb.cell? ⟨w6.heap.size, 0, none⟩ = some (.int .i64 (i : Int)) := (blk_cell hgb 0).trans rfl
            obtain ⟨v0, st, w11, v1, w12, w13, r1, r2, r3, M2, o1, o2, o3, o4, o5⟩ := MapR.push (t := 95) 56 (M_.out.below hbb) Try.underlying95 (by unfold maxLen; omega) (p := (e1, e2)) hes (by rw [HCE.out]; omega) (below_step B_.out hbb).size hgb hcb
            replace r1 : (Instr.mapEntry 95 (.map (some gm)) (.agg #[.int .i64 (e1 : Int), .int .i64 (e2 : Int)])).run Try.prog wb = .ok (.tuple #[v0, .int .i64 st]) w11 := r1
            rw [hwb] at r1
            have M3 := Lib.hid (show MapR w13 w.heap.size gm (3 * i + (j + 1)) (cntE (ps ++ [(p, q)])) by
              have h := M2
              rw [show upd (cntE ps) (e1, e2) (cntE ps (e1, e2) + 1) = cntE (ps ++ [(p, q)]) by rw [← cntE_snoc, HEE.out]] at h
              exact h)
            have B3 := Lib.hid (show Below w.heap.size w w13 from ⟨o1.trans (below_step B_.out hbb).os, o2.trans (below_step B_.out hbb).tape, o3.trans (below_step B_.out hbb).output, Nat.le_trans (below_step B_.out hbb).size o4, fun k hk => (o5 k (Nat.lt_of_lt_of_le hk (below_step B_.out hbb).size) (by omega) (.inl hk)).trans ((below_step B_.out hbb).block k hk)⟩)
            have L3 := Lib.hid ((L_.out.below hbb).put (W' := w13) (fun k hk hv => by
              obtain ⟨gb, e, _, _, cur, hc⟩ := (L_.out.below hbb).block
              have e' : gb = k := Option.some.inj (e.symm.trans hv)
              subst e'
              exact o5 gb hk (fun h => (M_.out.below hbb).ne hc h.symm) (.inr ⟨cur, 106, by decide, hc⟩)))
            have k0 := D_.out.c0
            have k1 := D_.out.c1
            clear hwb hbb hgb hcb M2 o1 o2 o3 o4 o5
            clear D4 D_ M_ L_ B_
            go_wp2_with (first
              | ((with_reducible refine gate_builtin (b := .append) (xs := #[.tmp 39, .tmp 41]) rfl ?_); at_builtin; refine append_eq rfl (.tmp 39) (.tmp 41) 96 rfl _ _ l1 w6 rfl rfl hA ?_)
              | ((with_reducible refine gate_builtin (b := .append) (xs := #[.tmp 45, .tmp 47]) rfl ?_); at_builtin; refine append_eq rfl (.tmp 45) (.tmp 47) 56 rfl _ _ v1 w12 rfl rfl r2 ?_)
              | fail)
            exact ⟨⟨j + 1, by omega, by simp, B3, by rw [HNX.out]; exact M3, by rw [HNX.out]; exact L3⟩, by simp [intOf]; omega⟩
          · have HF : Hid (firsts (ps.map edgeN ++ [(e1, e2)]) = firsts (ps.map edgeN)) := Lib.hid (firsts_snoc_old _ _ (by
              have := mt (cntE_zero ps (e1, e2)).2
              rw [HCE.out] at this
              exact Classical.not_not.1 (this hz)))
            have L_ := Lib.hid (show ListE w4 w.heap.size u5 (firsts ((ps ++ [(p, q)]).map edgeN)) by rw [HMP.out, HF.out]; exact L4.out)
            have B_ := B4
            have M_ := M4
            have D_ := D4
            clear B4 M4 L4
            obtain ⟨wb, hwb⟩ : ∃ W, W = w4.alloc (.cells #[.int .i64 (i : Int)] 2) := ⟨_, rfl⟩
            have hbb : Below w4.heap.size w4 wb := by rw [hwb]; exact below_alloc (Below.refl _ _) _
            have hgb : wb.heap[w4.heap.size]? = some (.cells #[.int .i64 (i : Int)] 2 (0, 0)) := by rw [hwb]; exact heap_alloc_new _ _
            have hcb : wb.cell? ⟨w4.heap.size, 0, none⟩ = some (.int .i64 (i : Int)) := (blk_cell hgb 0).trans rfl
            obtain ⟨v0, st, w11, v1, w12, w13, r1, r2, r3, M2, o1, o2, o3, o4, o5⟩ := MapR.push (t := 95) 56 (M_.out.below hbb) Try.underlying95 (by unfold maxLen; omega) (p := (e1, e2)) hes (by rw [HCE.out]; omega) (below_step B_.out hbb).size hgb hcb
            replace r1 : (Instr.mapEntry 95 (.map (some gm)) (.agg #[.int .i64 (e1 : Int), .int .i64 (e2 : Int)])).run Try.prog wb = .ok (.tuple #[v0, .int .i64 st]) w11 := r1
            rw [hwb] at r1
            have M3 := Lib.hid (show MapR w13 w.heap.size gm (3 * i + (j + 1)) (cntE (ps ++ [(p, q)])) by
              have h := M2
              rw [show upd (cntE ps) (e1, e2) (cntE ps (e1, e2) + 1) = cntE (ps ++ [(p, q)]) by rw [← cntE_snoc, HEE.out]] at h
              exact h)
            have B3 := Lib.hid (show Below w.heap.size w w13 from ⟨o1.trans (below_step B_.out hbb).os, o2.trans (below_step B_.out hbb).tape, o3.trans (below_step B_.out hbb).output, Nat.le_trans (below_step B_.out hbb).size o4, fun k hk => (o5 k (Nat.lt_of_lt_of_le hk (below_step B_.out hbb).size) (by omega) (.inl hk)).trans ((below_step B_.out hbb).block k hk)⟩)
            have L3 := Lib.hid ((L_.out.below hbb).put (W' := w13) (fun k hk hv => by
              obtain ⟨gb, e, _, _, cur, hc⟩ := (L_.out.below hbb).block
              have e' : gb = k := Option.some.inj (e.symm.trans hv)
              subst e'
              exact o5 gb hk (fun h => (M_.out.below hbb).ne hc h.symm) (.inr ⟨cur, 106, by decide, hc⟩)))
            have k0 := D_.out.c0
            have k1 := D_.out.c1
            clear hwb hbb hgb hcb M2 o1 o2 o3 o4 o5
            clear D4 D_ M_ L_ B_
            go_wp2_with (first
              | ((with_reducible refine gate_builtin (b := .append) (xs := #[.tmp 45, .tmp 47]) rfl ?_); at_builtin; refine append_eq rfl (.tmp 45) (.tmp 47) 56 rfl _ _ v1 w12 rfl rfl r2 ?_)
              | fail)
            exact ⟨⟨j + 1, by omega, by simp, B3, by rw [HNX.out]; exact M3, by rw [HNX.out]; exact L3⟩, by simp [intOf]; omega⟩
        · obtain rfl : 3 = j := by omega
          go_wp2_with fail
          have hz : [(a1, a2), (a2, a3), (a3, a1)].take 3 = [(a1, a2), (a2, a3), (a3, a1)] := rfl
          rw [hz] at HM HL
          exact ⟨⟨i + 1, hlt, by simp, HB, by rw [HK.out]; exact HM, by rw [HK.out]; exact HL⟩, by simp [intOf]; omega⟩
    · obtain rfl : i = T.length := by omega
      rw [List.take_length] at HL
      have hfl : (firsts ((tways T).map edgeN)).length < 1000000 := by have := firsts_len_le ((tways T).map edgeN); rw [List.length_map, ways_len] at this; omega
      generalize firsts ((tways T).map edgeN) = l at *
      obtain ⟨gl, cap, cur, rfl, hb1, hb2, hb3⟩ := HL.out.form
      have HS := Lib.hid (sort_step l hfl gl cap wr hb2 hb3)
      clear hb2 hb3 HL HM hfl
      go_wp2_with (first
        | (go_at_call 106; refine (HS.out).mono ?_; rintro E w5 ⟨rfl, hg⟩; have B5 := Lib.hid (pw_below_grown HB.out (some gl) HB.out.size hg (fun k hk => by injection hk with hk; omega)); clear hg)
        | fail)
      go_ret2
      exact ⟨⟨.map (some gm), some ⟨gl, 0, none⟩, cap, by rw [← HFE.out]; rfl⟩, B5.out⟩

end Go.Proofs.Ytepilofcionekaa
namespace Go.Proofs.Ytepilofcionekaa
open Fl Go.RowKit Go.Proofs.YtepilofcionekaaW.PrintWords Go.Proofs.YtepilofcionekaaW.PrintLast Go.Proofs.YtepilofcionekaaW.PrintMore Go.Proofs.Ytepilofcionekaa.PMesh Msh Mp
set_option linter.unusedVariables false
set_option linter.unusedSimpArgs false

set_option maxHeartbeats 4000000 in
set_option maxRecDepth 100000 in
theorem impl_EulerOf (A : Option Addr) (c : Nat) (Q : List S42) (B : Option Addr) (e : Nat) (T : List (List Int)) (w : World) (hQ : Kd.C k42 w A Q.length Q) (hq : Q.length ≤ c) (hT : Kd.C (Kd.slice 2 (Kd.int .i64)) w B T.length T) (hqt : T.length ≤ e) :
    Calls Try.prog 27 #[.agg #[.slice A Q.length c, .slice B T.length e]] w fun E w' => E = .returned (.tuple #[.int .i64 (eulerR Q.length T).1, .bool (eulerR Q.length T).2]) ∧ Below w.heap.size w w' := by
  have hb0 := below_alloc (Below.refl w.heap.size w) (.cells #[.slice A Q.length c, .slice B T.length e] 27)
  have hbx := BoxAt.new w 27 (.slice A Q.length c) (.slice B T.length e)
  have HX0 := Lib.hid hbx
  have HB0 := Lib.hid hb0
  have hc0 := hbx.c0
  have hc1 := hbx.c1
  have HV := Lib.hid (fun (W : World) (h : Below w.heap.size w W) => impl_ValidMesh.calls 2097156 A c Q B e T _ W (Kd.C_below hQ h) hq (Kd.C_below hT h) hqt (valid_f Q T _ (by omega)))
  by_cases hv : validB Q.length T = true
  · have hr : eulerR Q.length T = (eulerV Q.length T, true) := by unfold eulerR; rw [if_pos hv]
    obtain ⟨hn, ht, hta⟩ := validB_iff.1 hv
    have HU := Lib.hid (fun (W : World) (h : Below w.heap.size w W) => impl_usedPlaces.calls 1000 A c Q B e T _ W (Kd.C_below hQ h) hq (Kd.C_below hT h) hqt (used_f Q T hv))
    have HTB := Lib.hid (fun (W : World) (h : Below w.heap.size w W) => impl_trianglesByEdge A c Q B e T W (Kd.C_below hT h) hv)
    have hel : edgesC Q.length T ≤ 4096 := edgesP_len hn T
    have HUL := Lib.hid (usedL_len Q.length T)
    have HUT := Lib.hid (used_take Q.length T)
    have HCT := Lib.hid (fun i => (show ((usedL Q.length T).take i).count true ≤ i from Nat.le_trans List.count_le_length (by rw [List.length_take]; omega)))
    have HUG := Lib.hid (show ∀ i, i < Q.length → rdOf false (usedL Q.length T) (i : Int) = isE T i i by
      intro i hi
      unfold rdOf
      rw [Int.toNat_natCast, List.getD_eq_getElem?_getD]
      simp [usedL, hi])
    have HEV : Hid (eulerV Q.length T = ((usedL Q.length T).count true : Int) + (T.length : Int) - (edgesC Q.length T : Int)) := Lib.hid rfl
    rw [hv] at HV
    rw [hr]
    dsimp only
    generalize eulerV Q.length T = R at *
    generalize edgesC Q.length T = en at *
    clear hr hv hQ hq hT hqt hb0 hbx hta
    generalize usedL Q.length T = U at *
    generalize Q.length = n at *
    go_enter Try.func27, Try.ntmps27
    go_wp2_with (first
      | (go_at_call 43; refine (HV.out _ HB0.out).mono ?_; rintro E w1 ⟨rfl, hb⟩; have B1 := Lib.hid (below_then HB0.out hb HB0.out.size); have X1 := Lib.hid (HX0.out.below hb); have x0 := X1.out.c0; have x1 := X1.out.c1; clear hb hc0 hc1)
      | (go_at_call 73; refine (HU.out _ B1.out).mono ?_; rintro E w2 ⟨v, rfl, R2, hb⟩; have B2 := Lib.hid (below_then B1.out hb B1.out.size); have X2 := Lib.hid (X1.out.below hb); obtain ⟨Au, cu, ev⟩ := Kd.R_slice R2; rw [HUL.out] at ev; subst ev; have C2 := Lib.hid (Kd.R_reads' R2).2.2; clear hb R2 x0 x1)
      | fail)
    rw [HUL.out] at C2
    clear X1 B1 HX0 HB0 HV HU
    have y0 := X2.out.c0
    have y1 := X2.out.c1
    go_loopw [4, 18] (fun m k wr => ∃ i x : Nat, i ≤ n ∧ m = .int .i64 (x : Int) ∧ k = .int .i64 (i : Int) ∧ Hid (x = T.length + (U.take i).count true) ∧ wr = w2) (fun _ k _ => n - (intOf k).toNat)
    case atStart => exact ⟨0, T.length, Nat.zero_le _, rfl, rfl, Lib.hid rfl, rfl⟩
    case round =>
      obtain ⟨i, x, hi, rfl, rfl, HM, rfl⟩ := hrel
      have hx : x ≤ T.length + i := by rw [HM.out]; have := HCT.out i; omega
      have b2 : (0 : Int) ≤ (i : Int) := by omega
      have b3 : (i : Int) < 9223372036854775807 := by omega
      have m3 : (x : Int) < 9223372036854775807 := by omega
      have m2 : (0 : Int) ≤ (x : Int) := by omega
      by_cases hlt : i < n
      · have b1 : (i : Int) < (n : Int) := by omega
        obtain ⟨ad, rfl, cu2⟩ := Kd.at_bool C2.out (i : Int) (by omega) (by omega)
        rw [HUG.out i hlt, Int.toNat_natCast] at cu2
        have hut := HUT.out i hlt
        by_cases hu : isE T i i = true
        · rw [hu] at cu2
          rw [if_pos hu] at hut
          have HUU := Lib.hid hut
          clear hut hu
          go_wp2_with fail
          go_roundw
          case rel => exact ⟨i + 1, x + 1, by omega, by simp, by simp, Lib.hid (by rw [HUU.out, HM.out]; rfl), by first | rfl | trivial⟩
          case measure => simp [intOf]; omega
        · rw [Bool.eq_false_iff.2 hu] at cu2
          rw [if_neg hu] at hut
          have HUU := Lib.hid hut
          clear hut hu
          go_wp2_with fail
          go_roundw
          case rel => exact ⟨i + 1, x, by omega, rfl, by simp, Lib.hid (by rw [HUU.out, HM.out]; rfl), by first | rfl | trivial⟩
          case measure => simp [intOf]; omega
      · obtain rfl : i = n := by omega
        have HMC : Hid (x = T.length + U.count true) := Lib.hid (by rw [HM.out, List.take_of_length_le (by rw [HUL.out]; omega)])
        go_wp2_with (first
          | (go_at_call 74; refine (HTB.out _ B2.out).mono ?_; rintro E w5 ⟨⟨mv, A', c', rfl⟩, hb⟩; have B5 := Lib.hid (below_then B2.out hb B2.out.size); clear hb)
          | fail)
        go_ret2
        refine ⟨?_, B5.out⟩
        rw [HEV.out]
        rw [show (U.count true : Int) + (T.length : Int) - (en : Int) = (x : Int) - (en : Int) by rw [HMC.out]; omega]
        rfl
  · have hr : eulerR Q.length T = (0, false) := by unfold eulerR; rw [if_neg hv]
    rw [Bool.eq_false_iff.2 hv] at HV
    rw [hr]
    clear hr hv hQ hq hT hqt hb0 hbx
    go_enter Try.func27, Try.ntmps27
    go_wp2_with (first
      | (go_at_call 43; refine (HV.out _ HB0.out).mono ?_; rintro E w1 ⟨rfl, hb⟩; have B1 := Lib.hid (below_then HB0.out hb HB0.out.size); clear hb hc0 hc1)
      | fail)
    go_ret2
    exact ⟨rfl, B1.out⟩

end Go.Proofs.Ytepilofcionekaa
namespace Go.Proofs.Ytepilofcionekaa.Msh
open Fl Go.RowKit Go.Proofs.YtepilofcionekaaW.PrintWords Go.Proofs.Ytepilofcionekaa.PMesh
set_option linter.unusedVariables false

theorem min_f (p q : Nat) : spec_l00Min.f (p : Int) (q : Int) = some ((min p q : Nat) : Int) := by
  unfold spec_l00Min.f
  split <;> (congr 1; omega)
theorem max_f (p q : Nat) : spec_l00Max.f (p : Int) (q : Int) = some ((max p q : Nat) : Int) := by
  unfold spec_l00Max.f
  split <;> (congr 1; omega)
theorem idx_lt {n p q : Nat} (hp : p < n) (hq : q < n) : p * n + q < n * n := by
  have := Nat.mul_le_mul_right n (show p + 1 ≤ n from hp)
  rw [Nat.succ_mul] at this
  omega
theorem idx_inj {n a b p q : Nat} (hb : b < n) (hq : q < n) (h : a * n + b = p * n + q) : a = p ∧ b = q := by
  have h1 : (a * n + b) / n = a := by rw [Nat.add_comm, Nat.add_mul_div_right _ _ (by omega), Nat.div_eq_of_lt hb, Nat.zero_add]
  have h2 : (p * n + q) / n = p := by rw [Nat.add_comm, Nat.add_mul_div_right _ _ (by omega), Nat.div_eq_of_lt hq, Nat.zero_add]
  rw [h, h2] at h1
  subst h1
  exact ⟨rfl, by omega⟩
theorem idx_wrap {n p q : Nat} (hn : n ≤ 64) (hp : p < n) (hq : q < n) : wrap64 (wrap64 ((p : Int) * (n : Int)) + (q : Int)) = ((p * n + q : Nat) : Int) := by
  have h1 := idx_lt hp hq
  have h2 : n * n ≤ 4096 := by have := Nat.mul_le_mul hn hn; omega
  have e : (p : Int) * (n : Int) = ((p * n : Nat) : Int) := by rw [Int.natCast_mul]
  rw [e]
  generalize p * n = x at *
  generalize n * n = y at *
  have h3 : wrap64 (x : Int) = (x : Int) := wrap_fit (by omega) (by omega)
  rw [h3, wrap_fit (by omega) (by omega), Int.natCast_add]

/-- Pairs that are marked in a table. -/
def Seen (n : Nat) (ps : List (Nat × Nat)) (s : List Bool) : Prop := s.length = n * n ∧ ∀ a b, a < n → b < n → s.getD (a * n + b) false = decide ((a, b) ∈ ps)
theorem Seen.start (n : Nat) : Seen n [] (List.replicate (n * n) false) := ⟨by simp, fun a b ha hb => by
  have := idx_lt ha hb
  rw [List.getD_eq_getElem?_getD, List.getElem?_replicate]
  simp [this]⟩
theorem Seen.step {n : Nat} {ps : List (Nat × Nat)} {s : List Bool} (h : Seen n ps s) {p q : Nat} (hp : p < n) (hq : q < n) : Seen n (ps ++ [(p, q)]) (s.set (p * n + q) true) := by
  refine ⟨by rw [List.length_set]; exact h.1, fun a b ha hb => ?_⟩
  have hl := idx_lt hp hq
  rw [← h.1] at hl
  rw [List.getD_eq_getElem?_getD]
  by_cases e : p * n + q = a * n + b
  · obtain ⟨rfl, rfl⟩ := idx_inj hq hb e
    rw [List.getElem?_set_self hl]
    simp
  · rw [List.getElem?_set_ne e, ← List.getD_eq_getElem?_getD, h.2 a b ha hb, decide_eq_decide]
    constructor
    · intro hm; simp [hm]
    · intro hm
      rcases List.mem_append.1 hm with hm | hm
      · exact hm
      · simp at hm
        exact absurd (by rw [hm.1, hm.2]) e

section
variable (Q : List S42) (T : List (List Int))
theorem e1_step (k n : Nat) (hn : n ≤ 64) (s : List Bool) (hl : s.length = n * n) (i : Int) (t : List Int) (j j1 : Int) (p q : Nat) (hp : p < n) (hq : q < n) (h0 : 0 ≤ j) (h3 : j < 3) (ht : t.length = 3) (hj : Int.tmod (wrap64 (j + 1)) 3 = j1) (hj0 : 0 ≤ j1) (hj3 : j1 < 3) (e1 : rd t j = (p : Int)) (e2 : rd t j1 = (q : Int)) :
    spec_l02Edges.l1 (k + 1) (n : Int) s i t j Q T = spec_l02Edges.l1 k (n : Int) (s.set (min p q * n + max p q) true) i t (wrap64 (j + 1)) Q T := by
  have hm : min p q < n := by omega
  have hM : max p q < n := by omega
  simp only [spec_l02Edges.l1]
  rw [if_pos h3, if_pos h0, if_pos (by rw [ht]; omega), hj, if_pos hj0, if_pos (by rw [ht]; omega), e1, e2, min_f, max_f]
  have hx := idx_lt hm hM
  rw [Option.bind_some, Option.bind_some, idx_wrap hn hm hM, if_pos (Int.natCast_nonneg _), if_pos (by rw [hl]; exact Int.ofNat_lt.2 hx), Int.toNat_natCast]

theorem w01 : wrap64 (0 + 1) = 1 := by rw [wrap_fit (by omega) (by omega)]; rfl
theorem w12 : wrap64 (1 + 1) = 2 := by rw [wrap_fit (by omega) (by omega)]; rfl
theorem w23 : wrap64 (2 + 1) = 3 := by rw [wrap_fit (by omega) (by omega)]; rfl
theorem e1_all (k n : Nat) (hn : n ≤ 64) (s : List Bool) (ps : List (Nat × Nat)) (hs : Seen n ps s) (i : Int) (a b c : Nat) (ha : a < n) (hb : b < n) (hc : c < n) :
    ∃ s', Seen n (ps ++ [edgeN (a, b), edgeN (b, c), edgeN (c, a)]) s' ∧ spec_l02Edges.l1 (k + 4) (n : Int) s i [(a : Int), (b : Int), (c : Int)] 0 Q T = spec_l02Edges.l0 k (n : Int) s' (wrap64 (i + 1)) Q T := by
  have s1 := hs.step (p := min a b) (q := max a b) (by omega) (by omega)
  have s2 := s1.step (p := min b c) (q := max b c) (by omega) (by omega)
  have s3 := s2.step (p := min c a) (q := max c a) (by omega) (by omega)
  refine ⟨_, by simpa [edgeN] using s3, ?_⟩
  rw [e1_step Q T (k + 3) n hn s hs.1 i _ 0 1 a b ha hb (by omega) (by omega) rfl (by rw [w01]; rfl) (by omega) (by omega) rfl rfl, w01]
  rw [e1_step Q T (k + 2) n hn _ s1.1 i _ 1 2 b c hb hc (by omega) (by omega) rfl (by rw [w12]; rfl) (by omega) (by omega) rfl rfl, w12]
  rw [e1_step Q T (k + 1) n hn _ s2.1 i _ 2 0 c a hc ha (by omega) (by omega) rfl (by rw [w23]; rfl) (by omega) (by omega) rfl rfl, w23]
  simp only [spec_l02Edges.l1]
  rw [if_neg (by omega)]

theorem e0_loop (n : Nat) (hn : n ≤ 64) (hT : T.length ≤ 128) (ht : T.all (triB n) = true) (d : Nat) : ∀ (k i : Nat) (s : List Bool), i ≤ T.length → T.length - i = d → Seen n ((tways (T.take i)).map edgeN) s → 5 * d + 1 < k →
    ∃ s' k', Seen n ((tways T).map edgeN) s' ∧ k' + 5 * d + 1 = k ∧ spec_l02Edges.l0 k (n : Int) s (i : Int) Q T = spec_l02Edges.l2 k' (n : Int) s' [] 0 := by
  induction d with
  | zero =>
    intro k i s hi hd hs hk
    obtain ⟨k, rfl⟩ : ∃ j, k = j + 1 := ⟨k - 1, by omega⟩
    rw [List.take_of_length_le (by omega)] at hs
    refine ⟨s, k, hs, by omega, ?_⟩
    simp only [spec_l02Edges.l0]
    rw [if_neg (by omega)]
  | succ d ih =>
    intro k i s hi hd hs hk
    obtain ⟨k, rfl⟩ : ∃ j, k = j + 5 := ⟨k - 5, by omega⟩
    have hil : i < T.length := by omega
    obtain ⟨a, b, c, et, ha, hb, hc, _⟩ := tri_natE (List.all_eq_true.1 ht T[i] (List.getElem_mem hil))
    obtain ⟨s1, hs1, e1⟩ := e1_all Q T k n hn s _ hs (i : Int) a b c ha hb hc
    simp only [spec_l02Edges.l0]
    rw [if_pos (by omega), if_pos (by omega), rdL T i hil, et, e1, up i (by omega)]
    have hw : (tways (T.take (i + 1))).map edgeN = (tways (T.take i)).map edgeN ++ [edgeN (a, b), edgeN (b, c), edgeN (c, a)] := by
      rw [List.take_succ_eq_append_getElem hil, et, ways_snoc, ways3_nat, List.map_append]
      rfl
    obtain ⟨s', k', h1, h2, h3⟩ := ih k (i + 1) s1 (by omega) (by omega) (by rw [hw]; exact hs1) (by omega)
    exact ⟨s', k', h1, by omega, h3⟩

/-- The edges from a on to places before b. -/
def edgesB (T : List (List Int)) (a b : Nat) : List (List Int) := ((List.range b).filter fun b => decide (a < b) && isE T a b).map fun b : Nat => ([(a : Int), (b : Int)] : List Int)
theorem edgesB_all (n : Nat) (a : Nat) : edgesB T a n = edgesA n T a := rfl
theorem edgesB_start (a : Nat) : edgesB T a (a + 1) = [] := by
  unfold edgesB
  rw [List.map_eq_nil_iff, List.filter_eq_nil_iff]
  intro x hx
  simp at hx
  simp
  omega
theorem edgesB_succ (a b : Nat) (h : a < b) : edgesB T a (b + 1) = edgesB T a b ++ (if isE T a b = true then [[(a : Int), (b : Int)]] else []) := by
  unfold edgesB
  rw [List.range_succ, List.filter_append, List.map_append]
  congr 1
  by_cases he : isE T a b = true
  · simp [he, h]
  · simp [he]

theorem e3_loop (n : Nat) (hn : n ≤ 64) (s : List Bool) (hl : s.length = n * n) (hs : ∀ a b, a < n → b < n → a < b → s.getD (a * n + b) false = isE T a b) (a : Nat) (ha : a < n) (out : List (List Int)) (ho : out.length ≤ a * 64) (d : Nat) :
    ∀ (k b : Nat), a < b → b ≤ n → n - b = d → d + 1 < k → ∃ k', k' + d + 1 = k ∧ spec_l02Edges.l3 k (n : Int) s (out ++ edgesB T a b) (a : Int) (b : Int) = spec_l02Edges.l2 k' (n : Int) s (out ++ edgesA n T a) (wrap64 ((a : Int) + 1)) := by
  induction d with
  | zero =>
    intro k b hab hb hd hk
    obtain ⟨k, rfl⟩ : ∃ j, k = j + 1 := ⟨k - 1, by omega⟩
    obtain rfl : b = n := by omega
    refine ⟨k, by omega, ?_⟩
    simp only [spec_l02Edges.l3]
    rw [if_neg (by omega)]
    rfl
  | succ d ih =>
    intro k b hab hb hd hk
    obtain ⟨k, rfl⟩ : ∃ j, k = j + 1 := ⟨k - 1, by omega⟩
    have hbn : b < n := by omega
    have hidx := idx_lt ha hbn
    obtain ⟨k', hk', e⟩ := ih k (b + 1) (by omega) (by omega) (by omega) (by omega)
    refine ⟨k', by omega, ?_⟩
    rw [← e, edgesB_succ T a b hab]
    have hlen : (edgesB T a b).length ≤ b := by unfold edgesB; rw [List.length_map]; have := List.length_filter_le (fun x => decide (a < x) && isE T a x) (List.range b); simpa using this
    simp only [spec_l02Edges.l3]
    rw [if_pos (by omega), idx_wrap hn ha hbn, if_pos (Int.natCast_nonneg _), if_pos (by rw [hl]; exact Int.ofNat_lt.2 hidx)]
    have hr : rdOf false s ((a * n + b : Nat) : Int) = isE T a b := by unfold rdOf; rw [Int.toNat_natCast]; exact hs a b ha hbn hab
    rw [hr, up b (by omega)]
    by_cases he : isE T a b = true
    · rw [if_pos he, if_pos he, if_pos (by rw [List.length_append]; omega), List.append_assoc]
    · rw [if_neg he, if_neg he, List.append_nil]

theorem e2_loop (n : Nat) (hn : n ≤ 64) (s : List Bool) (hl : s.length = n * n) (hs : ∀ a b, a < n → b < n → a < b → s.getD (a * n + b) false = isE T a b) (d : Nat) :
    ∀ (k a : Nat), a ≤ n → n - a = d → d * 70 + 1 < k → spec_l02Edges.l2 k (n : Int) s ((List.range a).flatMap (edgesA n T)) (a : Int) = some (edgesL n T) := by
  induction d with
  | zero =>
    intro k a ha hd hk
    obtain ⟨k, rfl⟩ : ∃ j, k = j + 1 := ⟨k - 1, by omega⟩
    obtain rfl : a = n := by omega
    simp only [spec_l02Edges.l2]
    rw [if_neg (by omega)]
    rfl
  | succ d ih =>
    intro k a ha hd hk
    obtain ⟨k, rfl⟩ : ∃ j, k = j + 1 := ⟨k - 1, by omega⟩
    have han : a < n := by omega
    have hlen : ((List.range a).flatMap (edgesA n T)).length ≤ a * 64 := by
      have key : ∀ m : Nat, ((List.range m).flatMap (edgesA n T)).length ≤ m * 64 := by
        intro m
        induction m with
        | zero => simp
        | succ m ih =>
          rw [List.range_succ, List.flatMap_append, List.length_append]
          have : (edgesA n T m).length ≤ 64 := by unfold edgesA; rw [List.length_map]; have := List.length_filter_le (fun x => decide (m < x) && isE T m x) (List.range n); simp at this; omega
          rw [show List.flatMap (edgesA n T) [m] = edgesA n T m by simp]
          omega
      exact key a
    simp only [spec_l02Edges.l2]
    rw [if_pos (by omega), up a (by omega)]
    obtain ⟨k', hk', e⟩ := e3_loop T n hn s hl hs a han _ hlen (n - (a + 1)) k (a + 1) (by omega) (by omega) rfl (by omega)
    rw [edgesB_start, List.append_nil] at e
    rw [e, up a (by omega)]
    have := ih k' (a + 1) (by omega) (by omega) (by omega)
    rw [List.range_succ, List.flatMap_append] at this
    simpa using this
end

/-- What l02Edges computes of a valid mesh. -/
theorem edges_f (Q : List S42) (T : List (List Int)) (hv : validB Q.length T = true) : spec_l02Edges.f 10000 Q T = some (edgesL Q.length T) := by
  obtain ⟨hn, hT, ht⟩ := validB_iff.1 hv
  have hnn : Q.length * Q.length ≤ 4096 := by have := Nat.mul_le_mul hn hn; omega
  have e : wrap64 ((Q.length : Int) * (Q.length : Int)) = ((Q.length * Q.length : Nat) : Int) := by rw [← Int.natCast_mul]; exact wrap_fit (by omega) (by omega)
  unfold spec_l02Edges.f
  rw [e, if_pos (by omega), Int.toNat_natCast, if_pos (by omega)]
  obtain ⟨s, k', h1, h2, h3⟩ := e0_loop Q T Q.length hn hT ht T.length 10000 0 _ (by omega) (by omega) (by simpa [tways] using Seen.start Q.length) (by omega)
  rw [show ((0 : Nat) : Int) = 0 from rfl] at h3
  rw [h3]
  have hs : ∀ a b, a < Q.length → b < Q.length → a < b → s.getD (a * Q.length + b) false = isE T a b := by
    intro a b ha hb hab
    rw [h1.2 a b ha hb]
    have := mem_edges ht hab
    by_cases he : isE T a b = true
    · rw [he, decide_eq_true (this.2 he)]
    · rw [Bool.eq_false_iff.2 he]
      exact decide_eq_false (fun h => he (this.1 h))
  have := e2_loop T Q.length hn s h1.1 hs Q.length k' 0 (by omega) (by omega) (by omega)
  rw [show ((0 : Nat) : Int) = 0 from rfl] at this
  simpa using this
end Go.Proofs.Ytepilofcionekaa.Msh
namespace Go.Proofs.Ytepilofcionekaa
open Fl Go.RowKit Go.Proofs.YtepilofcionekaaW.PrintWords Go.Proofs.YtepilofcionekaaW.PrintLast Go.Proofs.YtepilofcionekaaW.PrintMore Go.Proofs.Ytepilofcionekaa.PMesh Msh
set_option linter.unusedVariables false

/-- A mesh's variable. -/
abbrev VarN (w0 W : World) (g : Nat) (Q : List S42) (T : List (List Int)) : Prop := IsS27 w0 W g Q T

theorem edges_step (Q : List S42) (T : List (List Int)) (hv : validB Q.length T = true) (g : Nat) (w0 W : World) (hI : VarN w0 W g Q T) (hB : Below w0.heap.size w0 W) :
    Calls Try.prog 75 #[.pointer (some ⟨g, 0, none⟩)] W fun e w' => ∃ v : Value, e = .returned v ∧ Hid (Kd.S (Kd.slice 2 (Kd.int .i64)) 56 w' W.heap.size (fun _ => True) v (edgesL Q.length T)) ∧ Hid (VarN w0 w' g Q T) ∧ Hid (Below w0.heap.size w0 w') := by
  refine (spec_l02Edges.calls 10000 g Q T _ w0 W hI hB (edges_f Q T hv)).mono ?_
  rintro e w' ⟨v, rfl, h0, h1, h2, _⟩
  exact ⟨v, rfl, Lib.hid h0, Lib.hid h1, Lib.hid h2⟩

theorem atN_step (Q : List S42) (T : List (List Int)) (hv : validB Q.length T = true) (a b : Int) (g : Nat) (w0 W : World) (hI : VarN w0 W g Q T) (hB : Below w0.heap.size w0 W) :
    Calls Try.prog 103 #[.pointer (some ⟨g, 0, none⟩), .int .i64 a, .int .i64 b] W fun e w' => ∃ v : Value, e = .returned v ∧ Hid (Kd.R (Kd.int .i64) 2 w' W.heap.size (fun _ => True) v (withL [a, b] 0 T)) ∧ Hid (VarN w0 w' g Q T) ∧ Hid (Below w0.heap.size w0 w') ∧ Hid (KeepBut W w' g none) := by
  refine (spec_l02At.calls 200 g Q T a b _ w0 W hI hB (at_f Q T hv a b)).mono ?_
  rintro e w' ⟨v, rfl, h0, h1, h2, h3⟩
  exact ⟨v, rfl, Lib.hid h0, Lib.hid h1, Lib.hid h2, Lib.hid h3⟩

theorem edgesK_step (Q : List S42) (T : List (List Int)) (hv : validB Q.length T = true) (g : Nat) (w0 W : World) (hI : VarN w0 W g Q T) (hB : Below w0.heap.size w0 W) :
    Calls Try.prog 75 #[.pointer (some ⟨g, 0, none⟩)] W fun e w' => ∃ v : Value, e = .returned v ∧ Hid (Kd.S (Kd.slice 2 (Kd.int .i64)) 56 w' W.heap.size (fun _ => True) v (edgesL Q.length T)) ∧ Hid (VarN w0 w' g Q T) ∧ Hid (Below w0.heap.size w0 w') ∧ Hid (KeepBut W w' g none) := by
  refine (spec_l02Edges.calls 10000 g Q T _ w0 W hI hB (edges_f Q T hv)).mono ?_
  rintro e w' ⟨v, rfl, h0, h1, h2, h3⟩
  exact ⟨v, rfl, Lib.hid h0, Lib.hid h1, Lib.hid h2, Lib.hid h3⟩

end Go.Proofs.Ytepilofcionekaa
namespace Go.Proofs.Ytepilofcionekaa
open Fl Go.RowKit Go.Proofs.YtepilofcionekaaW.PrintWords Go.Proofs.YtepilofcionekaaW.PrintLast Go.Proofs.YtepilofcionekaaW.PrintMore Go.Proofs.Ytepilofcionekaa.PMesh Msh
set_option linter.unusedVariables false
set_option linter.unusedSimpArgs false

set_option maxHeartbeats 4000000 in
set_option maxRecDepth 100000 in
theorem spec_l02Euler (Q : List S42) (T : List (List Int)) (hv : validB Q.length T = true) (g : Nat) (w0 W : World) (hI : VarN w0 W g Q T) (hB : Below w0.heap.size w0 W) :
    Calls Try.prog 70 #[.pointer (some ⟨g, 0, none⟩)] W fun e w' => e = .returned (.int .i64 (eulerV Q.length T)) ∧ Below w0.heap.size w0 w' := by
  have HI := Lib.hid hI
  have HB := Lib.hid hB
  have HV := Lib.hid hv
  obtain ⟨hn, ht, hta⟩ := validB_iff.1 hv
  have HA := Lib.hid hta
  have HEL : Hid ((edgesL Q.length T).length = edgesC Q.length T) := Lib.hid (by rw [edgesL_P, List.length_map]; rfl)
  have hel : edgesC Q.length T ≤ 4096 := edgesP_len hn T
  have HUL := Lib.hid (usedL_len Q.length T)
  have HUT := Lib.hid (used_take Q.length T)
  have HCT := Lib.hid (fun i => (show ((usedL Q.length T).take i).count true ≤ i from Nat.le_trans List.count_le_length (by rw [List.length_take]; omega)))
  have HEV : Hid (eulerV Q.length T = ((usedL Q.length T).count true : Int) + (T.length : Int) - (edgesC Q.length T : Int)) := Lib.hid rfl
  generalize eulerV Q.length T = R at *
  generalize edgesC Q.length T = en at *
  obtain ⟨n, hnn⟩ : ∃ n, n = Q.length := ⟨_, rfl⟩
  rw [← hnn] at hn
  have HN := Lib.hid hnn
  obtain ⟨U, hU⟩ : ∃ U, U = usedL Q.length T := ⟨_, rfl⟩
  rw [← hU, ← hnn] at HUL HUT
  rw [← hU] at HCT HEV
  clear hU hnn hI hB hv hta
  go_enter Try.func70, Try.ntmps70
  go_wp2_with fail
  go_loopw [3, 4] (fun c k wr => ∃ i m : Nat, i ≤ n ∧ c = .int .i64 (m : Int) ∧ k = .int .i64 (i : Int) ∧ Hid (m = (U.take i).count true) ∧ Hid (VarN w0 wr g Q T) ∧ Hid (Below w0.heap.size w0 wr)) (fun _ k _ => n - (intOf k).toNat)
  case atStart => exact ⟨0, 0, Nat.zero_le _, rfl, rfl, Lib.hid rfl, HI, HB⟩
  case round =>
    clear HI HB
    obtain ⟨i, m, hi, rfl, rfl, HM, HI, HB⟩ := hrel
    have hm : m ≤ i := by rw [HM.out]; exact HCT.out i
    obtain ⟨At, ct, Bt, te, hg5, _, _, hT0⟩ := HI.out
    have x0 : wr.cell? ⟨g, 0, none⟩ = some (.slice At n ct) := by rw [HN.out]; exact (blk_cell hg5 0).trans rfl
    have b2 : (0 : Int) ≤ (i : Int) := by omega
    have b3 : (i : Int) < 9223372036854775807 := by omega
    have m3 : (m : Int) < 9223372036854775807 := by omega
    have m2 : (0 : Int) ≤ (m : Int) := by omega
    clear hg5 hT0
    by_cases hlt : i < n
    · have b1 : (i : Int) < (n : Int) := by omega
      have hpos := withL_pos i i T 0
      have hut := HUT.out i hlt
      have HAT := Lib.hid (atN_step Q T HV.out (i : Int) (i : Int) g w0)
      generalize withL [(i : Int), (i : Int)] 0 T = Lw at *
      obtain ⟨ln, hln⟩ : ∃ ln, ln = Lw.length := ⟨_, rfl⟩
      rw [← hln] at hpos
      have HLN := Lib.hid hln
      clear hln
      by_cases hu : isE T i i = true
      · have c1 : 0 < ln := hpos.2 hu
        rw [if_pos hu] at hut
        have HUU := Lib.hid hut
        clear hut hpos hu
        go_wp2_with (first
          | (go_at_call 103; (with_reducible refine (HAT.out _ HI.out HB.out).mono ?_); rintro e w5 ⟨v, rfl, R5, I5, B5, K5⟩; obtain ⟨Al, cl, ev⟩ := Kd.R_slice R5.out; rw [← HLN.out] at ev; subst ev; clear x0)
          | fail)
        go_roundw
        case rel => exact ⟨i + 1, m + 1, by omega, by simp, by simp, Lib.hid (by rw [HUU.out, HM.out]), I5, B5⟩
        case measure => simp [intOf]; omega
      · have c1 : ¬ 0 < ln := fun h => hu (hpos.1 h)
        rw [if_neg hu] at hut
        have HUU := Lib.hid hut
        clear hut hpos hu
        go_wp2_with (first
          | (go_at_call 103; (with_reducible refine (HAT.out _ HI.out HB.out).mono ?_); rintro e w5 ⟨v, rfl, R5, I5, B5, K5⟩; obtain ⟨Al, cl, ev⟩ := Kd.R_slice R5.out; rw [← HLN.out] at ev; subst ev; clear x0)
          | fail)
        go_roundw
        case rel => exact ⟨i + 1, m, by omega, rfl, by simp, Lib.hid (by rw [HUU.out, HM.out]; rfl), I5, B5⟩
        case measure => simp [intOf]; omega
    · obtain rfl : i = n := by omega
      have hmc : m = U.count true := by rw [HM.out, List.take_of_length_le (by rw [HUL.out]; omega)]
      have HMC := Lib.hid hmc
      clear hmc
      go_wp2_with fail
      clear x0
      have HI2 := Lib.hid (IsS27.below HI.out (Below.drew (Below.refl _ _)))
      have HB2 := Lib.hid (Below.drew HB.out)
      clear HI HB
      obtain ⟨_, _, Bt, te, hg5, _, _, hT0⟩ := HI2.out
      have x1 : wr.drew.cell? ⟨g, 1, none⟩ = some (.slice Bt T.length te) := (blk_cell hg5 1).trans rfl
      clear hg5 hT0
      refine start_ (n := 12) (S := fun w' => True) (ds := []) #[false, false, false, false, false, false, false, false, false, false, false, false] (by kernel_rfl) rfl rfl trivial (fun hHeld => ?_)
      generalize wr.drew = w6 at *
      refine pure_ (i := 0) (N := (some 22)) (v := ?_) (a' := ?_) #[true, false, false, false, false, false, false, false, false, false, false, false] rfl rfl (by kernel_rfl) (fun _ _ _ h => h) (Or.inl ⟨by rfl, ?_⟩) ?_ ?_
      rotate_left
      · intro w'
        go_simp
        with_reducible rfl
      rotate_left
      · simp only [Act.put, List.setIfInBounds_toArray, List.set_cons_zero, List.set_cons_succ, i64_w, i32_w]; rfl
      refine pure_ (i := 1) (N := (some 23)) (v := ?_) (a' := ?_) #[true, true, false, false, false, false, false, false, false, false, false, false] rfl rfl (by kernel_rfl) (fun _ _ _ h => h) (Or.inl ⟨by rfl, ?_⟩) ?_ ?_
      rotate_left
      · intro w'
        go_simp
        with_reducible rfl
      rotate_left
      · simp only [Act.put, List.setIfInBounds_toArray, List.set_cons_zero, List.set_cons_succ, i64_w, i32_w]; rfl
      refine pure_ (i := 5) (N := (some 27)) (v := ?_) (a' := ?_) #[true, true, false, false, false, true, false, false, false, false, false, false] rfl rfl (by kernel_rfl) (fun _ _ _ h => h) (Or.inl ⟨by rfl, ?_⟩) ?_ ?_
      rotate_left
      · intro w'
        go_simp
        with_reducible rfl
      rotate_left
      · simp only [Act.put, List.setIfInBounds_toArray, List.set_cons_zero, List.set_cons_succ, i64_w, i32_w]; rfl
      refine pure_ (i := 6) (N := (some 28)) (v := ?_) (a' := ?_) #[true, true, false, false, false, true, true, false, false, false, false, false] rfl rfl (by kernel_rfl) (fun _ _ _ h => h) (Or.inl ⟨by rfl, ?_⟩) ?_ ?_
      rotate_left
      · intro w'
        go_simp
        with_reducible rfl
      rotate_left
      · simp only [Act.put, List.setIfInBounds_toArray, List.set_cons_zero, List.set_cons_succ, i64_w, i32_w]; rfl
      refine pure_ (i := 7) (N := (some 29)) (v := ?_) (a' := ?_) #[true, true, false, false, false, true, true, true, false, false, false, false] rfl rfl (by kernel_rfl) (fun _ _ _ h => h) (Or.inl ⟨by rfl, ?_⟩) ?_ ?_
      rotate_left
      · intro w'
        go_simp
        with_reducible rfl
      rotate_left
      · simp only [Act.put, List.setIfInBounds_toArray, List.set_cons_zero, List.set_cons_succ, i64_w, i32_w]; rfl
      refine two_ (i := 2) (j := 8) (Ni := (some 24)) (Nj := (some 30)) #[true, true, true, false, false, true, true, true, false, false, false, false] #[true, true, false, false, false, true, true, true, true, false, false, false] rfl rfl rfl rfl (by kernel_rfl) (by decide) (by decide) (fun K hK => ?_) (fun K hK => ?_)
      · skip
        refine goes_ Try.func75 (by kernel_rfl) rfl #[.pointer (some ⟨g, 0, none⟩)] (by rfl) rfl rfl (by (try simp only [List.map_toArray, List.map_cons, List.map_nil]); first | done | rfl) ?_
        refine (edgesK_step Q T HV.out g w0 _ HI2.out HB2.out).mono ?_
        rintro E w7 ⟨v, rfl, S7, I7, B7, K7⟩
        obtain ⟨Ae, ce, ev⟩ := Kd.S_slice S7.out; rw [HEL.out] at ev; subst ev
        refine ⟨_, rfl, ?_⟩
        refine hK.out _ _ trivial (fun hHeld => ?_)
        clear hK K
        refine norm_ (a' := ?_) ?_ ?_
        rotate_left
        · show Act.put _ (some 24) _ = _
          simp only [Act.put, List.setIfInBounds_toArray, List.set_cons_zero, List.set_cons_succ, i64_w, i32_w]
          rfl
        refine pure_ (i := 3) (N := (some 25)) (v := ?_) (a' := ?_) #[true, true, true, true, false, true, true, true, false, false, false, false] rfl rfl (by kernel_rfl) (fun _ _ _ h => h) (Or.inl ⟨by rfl, ?_⟩) ?_ ?_
        rotate_left
        · intro w'
          go_simp
          with_reducible rfl
        rotate_left
        · simp only [Act.put, List.setIfInBounds_toArray, List.set_cons_zero, List.set_cons_succ, i64_w, i32_w]; rfl
        refine pure_ (i := 4) (N := (some 26)) (v := ?_) (a' := ?_) #[true, true, true, true, true, true, true, true, false, false, false, false] rfl rfl (by kernel_rfl) (fun _ _ _ h => h) (Or.inl ⟨by rfl, ?_⟩) ?_ ?_
        rotate_left
        · intro w'
          go_simp
          with_reducible rfl
        rotate_left
        · simp only [Act.put, List.setIfInBounds_toArray, List.set_cons_zero, List.set_cons_succ, i64_w, i32_w]; rfl
        clear x1
        obtain ⟨_, _, Bt2, te2, hg7, _, _, hT7⟩ := I7.out
        have x2 : w7.cell? ⟨g, 1, none⟩ = some (.slice Bt2 T.length te2) := (blk_cell hg7 1).trans rfl
        clear hg7 hT7
        refine one_ (i := 8) (N := (some 30)) #[true, true, true, true, true, true, true, true, true, false, false, false] rfl rfl (by kernel_rfl) (by decide) (fun K hK => ?_)
        refine value_ (w1 := ?_) (v := ?_) (by rfl) rfl ?_ ?_
        rotate_left 2
        · go_simp
          constructor
          · rfl
          · rfl
        refine hK.out _ _ trivial (fun hHeld => ?_)
        clear hK K
        refine norm_ (a' := ?_) ?_ ?_
        rotate_left
        · show Act.put _ (some 30) _ = _
          simp only [Act.put, List.setIfInBounds_toArray, List.set_cons_zero, List.set_cons_succ, i64_w, i32_w]
          rfl
        refine pure_ (i := 9) (N := (some 31)) (v := ?_) (a' := ?_) #[true, true, true, true, true, true, true, true, true, true, false, false] rfl rfl (by kernel_rfl) (fun _ _ _ h => h) (Or.inl ⟨by rfl, ?_⟩) ?_ ?_
        rotate_left
        · intro w'
          go_simp
          with_reducible rfl
        rotate_left
        · simp only [Act.put, List.setIfInBounds_toArray, List.set_cons_zero, List.set_cons_succ, i64_w, i32_w]; rfl
        refine pure_ (i := 10) (N := (some 32)) (v := ?_) (a' := ?_) #[true, true, true, true, true, true, true, true, true, true, true, false] rfl rfl (by kernel_rfl) (fun _ _ _ h => h) (Or.inl ⟨by rfl, ?_⟩) ?_ ?_
        rotate_left
        · intro w'
          go_simp
          with_reducible rfl
        rotate_left
        · simp only [Act.put, List.setIfInBounds_toArray, List.set_cons_zero, List.set_cons_succ, i64_w, i32_w]; rfl
        refine pure_ (i := 11) (N := (some 2)) (v := ?_) (a' := ?_) #[true, true, true, true, true, true, true, true, true, true, true, true] rfl rfl (by kernel_rfl) (fun _ _ _ h => h) (Or.inl ⟨by rfl, ?_⟩) ?_ ?_
        rotate_left
        · intro w'
          go_simp
          with_reducible rfl
        rotate_left
        · simp only [Act.put, List.setIfInBounds_toArray, List.set_cons_zero, List.set_cons_succ, i64_w, i32_w]; rfl
        refine done_ (by kernel_rfl) ?_
        go_wp2_with fail
        go_ret
        refine ⟨?_, B7.out⟩
        rw [HEV.out, ← HMC.out]
        rw [show wrap64 ((m : Int) - (en : Int)) = (m : Int) - (en : Int) from wrap_fit (by omega) (by omega), show wrap64 ((m : Int) - (en : Int) + (T.length : Int)) = (m : Int) - (en : Int) + (T.length : Int) from wrap_fit (by omega) (by omega)]
        rw [show (m : Int) - (en : Int) + (T.length : Int) = (m : Int) + (T.length : Int) - (en : Int) by omega]
        rfl
      · skip
        refine value_ (w1 := ?_) (v := ?_) (by rfl) rfl ?_ ?_
        rotate_left 2
        · go_simp
          constructor
          · rfl
          · rfl
        refine hK.out _ _ trivial (fun hHeld => ?_)
        clear hK K
        refine norm_ (a' := ?_) ?_ ?_
        rotate_left
        · show Act.put _ (some 30) _ = _
          simp only [Act.put, List.setIfInBounds_toArray, List.set_cons_zero, List.set_cons_succ, i64_w, i32_w]
          rfl
        refine pure_ (i := 9) (N := (some 31)) (v := ?_) (a' := ?_) #[true, true, false, false, false, true, true, true, true, true, false, false] rfl rfl (by kernel_rfl) (fun _ _ _ h => h) (Or.inl ⟨by rfl, ?_⟩) ?_ ?_
        rotate_left
        · intro w'
          go_simp
          with_reducible rfl
        rotate_left
        · simp only [Act.put, List.setIfInBounds_toArray, List.set_cons_zero, List.set_cons_succ, i64_w, i32_w]; rfl
        refine one_ (i := 2) (N := (some 24)) #[true, true, true, false, false, true, true, true, true, true, false, false] rfl rfl (by kernel_rfl) (by decide) (fun K hK => ?_)
        refine goes_ Try.func75 (by kernel_rfl) rfl #[.pointer (some ⟨g, 0, none⟩)] (by rfl) rfl rfl (by (try simp only [List.map_toArray, List.map_cons, List.map_nil]); first | done | rfl) ?_
        refine (edgesK_step Q T HV.out g w0 _ HI2.out HB2.out).mono ?_
        rintro E w7 ⟨v, rfl, S7, I7, B7, K7⟩
        obtain ⟨Ae, ce, ev⟩ := Kd.S_slice S7.out; rw [HEL.out] at ev; subst ev
        refine ⟨_, rfl, ?_⟩
        refine hK.out _ _ trivial (fun hHeld => ?_)
        clear hK K
        refine norm_ (a' := ?_) ?_ ?_
        rotate_left
        · show Act.put _ (some 24) _ = _
          simp only [Act.put, List.setIfInBounds_toArray, List.set_cons_zero, List.set_cons_succ, i64_w, i32_w]
          rfl
        refine pure_ (i := 3) (N := (some 25)) (v := ?_) (a' := ?_) #[true, true, true, true, false, true, true, true, true, true, false, false] rfl rfl (by kernel_rfl) (fun _ _ _ h => h) (Or.inl ⟨by rfl, ?_⟩) ?_ ?_
        rotate_left
        · intro w'
          go_simp
          with_reducible rfl
        rotate_left
        · simp only [Act.put, List.setIfInBounds_toArray, List.set_cons_zero, List.set_cons_succ, i64_w, i32_w]; rfl
        refine pure_ (i := 4) (N := (some 26)) (v := ?_) (a' := ?_) #[true, true, true, true, true, true, true, true, true, true, false, false] rfl rfl (by kernel_rfl) (fun _ _ _ h => h) (Or.inl ⟨by rfl, ?_⟩) ?_ ?_
        rotate_left
        · intro w'
          go_simp
          with_reducible rfl
        rotate_left
        · simp only [Act.put, List.setIfInBounds_toArray, List.set_cons_zero, List.set_cons_succ, i64_w, i32_w]; rfl
        refine pure_ (i := 10) (N := (some 32)) (v := ?_) (a' := ?_) #[true, true, true, true, true, true, true, true, true, true, true, false] rfl rfl (by kernel_rfl) (fun _ _ _ h => h) (Or.inl ⟨by rfl, ?_⟩) ?_ ?_
        rotate_left
        · intro w'
          go_simp
          with_reducible rfl
        rotate_left
        · simp only [Act.put, List.setIfInBounds_toArray, List.set_cons_zero, List.set_cons_succ, i64_w, i32_w]; rfl
        refine pure_ (i := 11) (N := (some 2)) (v := ?_) (a' := ?_) #[true, true, true, true, true, true, true, true, true, true, true, true] rfl rfl (by kernel_rfl) (fun _ _ _ h => h) (Or.inl ⟨by rfl, ?_⟩) ?_ ?_
        rotate_left
        · intro w'
          go_simp
          with_reducible rfl
        rotate_left
        · simp only [Act.put, List.setIfInBounds_toArray, List.set_cons_zero, List.set_cons_succ, i64_w, i32_w]; rfl
        refine done_ (by kernel_rfl) ?_
        go_wp2_with fail
        go_ret
        refine ⟨?_, B7.out⟩
        rw [HEV.out, ← HMC.out]
        rw [show wrap64 ((m : Int) - (en : Int)) = (m : Int) - (en : Int) from wrap_fit (by omega) (by omega), show wrap64 ((m : Int) - (en : Int) + (T.length : Int)) = (m : Int) - (en : Int) + (T.length : Int) from wrap_fit (by omega) (by omega)]
        rw [show (m : Int) - (en : Int) + (T.length : Int) = (m : Int) + (T.length : Int) - (en : Int) by omega]
        rfl

set_option maxHeartbeats 1000000 in
theorem spec_EulerOf (A : Option Addr) (c : Nat) (Q : List S42) (B : Option Addr) (e : Nat) (T : List (List Int)) (w : World) (hQ : Kd.C k42 w A Q.length Q) (hT : Kd.C (Kd.slice 2 (Kd.int .i64)) w B T.length T) :
    Calls Try.prog 25 #[.agg #[.slice A Q.length c, .slice B T.length e]] w fun E w' => E = .returned (.tuple #[.int .i64 (eulerR Q.length T).1, .bool (eulerR Q.length T).2]) ∧ Below w.heap.size w w' := by
  have HI := Lib.hid (IsS27.new w w A c B e Q T (Below.refl _ _) hQ hT)
  have HB0 := Lib.hid (Below.alloc (Below.refl w.heap.size w) (Nat.le_refl _) (.cells #[.slice A Q.length c, .slice B T.length e] 27))
  clear hQ hT
  have HIS := Lib.hid (fun (W : World) (hI : VarN w W w.heap.size Q T) (hB : Below w.heap.size w W) => spec_l02Is.calls 201 w.heap.size Q T _ w W hI hB (is_f Q T 201 (by omega)))
  by_cases hv : validB Q.length T = true
  · have hr : eulerR Q.length T = (eulerV Q.length T, true) := by unfold eulerR; rw [if_pos hv]
    have HS := Lib.hid (spec_l02Euler Q T hv w.heap.size w)
    rw [hv] at HIS
    rw [hr]
    dsimp only
    generalize eulerV Q.length T = r at *
    clear hr hv
    go_enter Try.func25, Try.ntmps25
    go_wp2_with (first
      | (go_at_call 69; refine (HIS.out _ HI.out HB0.out).mono ?_; rintro E w1 ⟨rfl, h1, h2, _⟩; have I1 := Lib.hid h1; have B1 := Lib.hid h2; clear h1 h2)
      | (go_at_call 70; refine (HS.out _ I1.out B1.out).mono ?_; rintro E w2 ⟨rfl, h2⟩; have B2 := Lib.hid h2; clear h2)
      | fail)
    go_ret2
    exact ⟨rfl, B2.out⟩
  · have hr : eulerR Q.length T = (0, false) := by unfold eulerR; rw [if_neg hv]
    rw [Bool.eq_false_iff.2 hv] at HIS
    rw [hr]
    clear hr hv
    go_enter Try.func25, Try.ntmps25
    go_wp2_with (first
      | (go_at_call 69; refine (HIS.out _ HI.out HB0.out).mono ?_; rintro E w1 ⟨rfl, h1, h2, _⟩; have B1 := Lib.hid h2; clear h1 h2)
      | fail)
    go_ret2
    exact ⟨rfl, B1.out⟩

end Go.Proofs.Ytepilofcionekaa
namespace Go.Proofs.Ytepilofcionekaa
open Go.RowKit Go.Proofs.YtepilofcionekaaW.PrintWords Go.Proofs.Ytepilofcionekaa.PMesh Msh
set_option linter.unusedVariables false

set_option maxHeartbeats 4000000 in
set_option maxRecDepth 100000 in
theorem fnExactEulerOf_walk (w : World) (A : Option Addr) (c : Nat) (L : List S122) (B : Option Addr) (e : Nat) (T : List (List Int)) (hL : Kd.C k122 w A L.length L) (hc : L.length ≤ c) (hT : Kd.C (Kd.slice 2 (Kd.int .i64)) w B T.length T) (he : T.length ≤ e) (ok : MeshOk L T)  :
    Calls Try.prog 5 #[.agg #[.slice A L.length c, .slice B T.length e]] w fun e w' => e = .returned (.bool true) ∧ Below w.heap.size w w' := by
  have came : CameM w A c L B e T := ⟨hL, hc, hT, he⟩
  obtain ⟨r, hsm, hr1, hsz⟩ := sz_step w w A c L B e T came ok 1048576 (by omega) (by omega)
  obtain ⟨P, hP⟩ : ∃ P, P = L.map toV := ⟨_, rfl⟩
  have HSZ := Lib.hid hsz
  have K0 := Lib.hid (below_alloc (Below.refl w.heap.size w) (.cells #[.slice A L.length c, .slice B T.length e] 50))
  clear hsz hL hc hT he 
  by_cases hneg : r < 0
  · clear came hsm
    go_enter Try.func5, Try.ntmps5
    go_wp2_with (first | (go_at_call 24; refine (HSZ.out _ K0.out).mono ?_; rintro E w1 ⟨rfl, hb⟩; have K1 := Lib.hid (below_then K0.out hb K0.out.size); clear hb) | fail)
    go_ret
    exact ⟨rfl, K1.out⟩
  · have hs := hsm (by omega)
    have hPl : P.length = L.length := by rw [hP, List.length_map]
    have hb1 : P.length ≤ 1048576 := by rw [hPl]; exact hs.1
    have hsim : simP P P := simP_self (by rw [hP]; exact map_ok ok.fl)
    have hto := to_step w A c L B e T came hs P hP
    obtain ⟨ans, hans⟩ : ∃ ans, ans = eulerR P.length T := ⟨_, rfl⟩
    have h1 : ∀ (A : Option Addr) (c : Nat) (B : Option Addr) (e : Nat) (W : World), Kd.C k42 W A P.length P → P.length ≤ c → Kd.C (Kd.slice 2 (Kd.int .i64)) W B T.length T → T.length ≤ e → Calls Try.prog 25 #[.agg #[.slice A P.length c, .slice B T.length e]] W (fun E w' => E = .returned (.tuple #[.int .i64 ans.1, .bool ans.2]) ∧ Below W.heap.size W w') := fun A c B e W p p' q q' => by rw [hans]; exact spec_EulerOf A c P B e T W p q
    have h2 : ∀ (A : Option Addr) (c : Nat) (B : Option Addr) (e : Nat) (W : World), Kd.C k42 W A P.length P → P.length ≤ c → Kd.C (Kd.slice 2 (Kd.int .i64)) W B T.length T → T.length ≤ e → Calls Try.prog 27 #[.agg #[.slice A P.length c, .slice B T.length e]] W (fun E w' => E = .returned (.tuple #[.int .i64 ans.1, .bool ans.2]) ∧ Below W.heap.size W w') := fun A c B e W p p' q q' => by rw [hans]; exact impl_EulerOf A c P B e T W p p' q q'
    have H1 := Lib.hid h1
    have H2 := Lib.hid h2
    have HTO := Lib.hid hto
    have HT1 : Hid (T.length ≤ 1048576) := Lib.hid hs.2.1
    have HT2 : Hid (∀ t ∈ T, t.length ≤ 1048576) := Lib.hid hs.2.2
    have HSI := Lib.hid hsim
    have BA0 := Lib.hid (BoxAt.new w 50 (.slice A L.length c) (.slice B T.length e))
    have z0 := BA0.out.lt
    clear h1 h2 hto hs hsim hsm hans hP came hPl ok
    go_enter Try.func5, Try.ntmps5
    go_wp2_with (first
      | (go_at_call 24; refine (HSZ.out _ K0.out).mono ?_; rintro E w1 ⟨rfl, hb⟩; have z1 := hb.size; have BA1 := Lib.hid (BA0.out.below hb); have bac1 := BA1.out.c0; have bad1 := BA1.out.c1; (try clear bac0 bad0); have K1 := Lib.hid (below_then K0.out hb K0.out.size); clear hb)
      | (go_at_call 26; first
          | (refine (HTO.out _ K3.out).mono ?_; rintro E w4 ⟨A4, c4, B4, e4, rfl, hx, hb, hk⟩; have z4 := hb.size; have BA4 := Lib.hid (BA3.out.below hb); have bac4 := BA4.out.c0; have bad4 := BA4.out.c1; (try clear bac3 bad3); have X4 := Lib.hid hx; have K4 := Lib.hid hk; obtain ⟨w5, hw5⟩ : ∃ w5, w5 = w4.alloc (.cells #[.slice A4 P.length c4, .slice B4 T.length e4] 27) := ⟨_, rfl⟩; have hv5 := below_alloc (Below.refl w4.heap.size w4) (.cells #[.slice A4 P.length c4, .slice B4 T.length e4] 27); rw [← hw5] at hv5; have z5 := hv5.size; have X5 := Lib.hid (X4.out.below hv5); have BA5 := Lib.hid (BA4.out.below hv5); have bac5 := BA5.out.c0; have bad5 := BA5.out.c1; (try clear bac4 bad4); have BX5 := Lib.hid (BoxAt.new w4 27 (.slice A4 P.length c4) (.slice B4 T.length e4)); rw [← hw5] at BX5; have y5 := BX5.out.lt; have K5 := Lib.hid (below_then K4.out hv5 K4.out.size); have WW5 := Lib.hid hw5; clear hv5 hw5; clear hx hb hk)
          | (refine (HTO.out _ K1.out).mono ?_; rintro E w2 ⟨A2, c2, B2, e2, rfl, hx, hb, hk⟩; have z2 := hb.size; have BA2 := Lib.hid (BA1.out.below hb); have bac2 := BA2.out.c0; have bad2 := BA2.out.c1; (try clear bac1 bad1); have D2 := Lib.hid hx; have K2 := Lib.hid hk; clear hx hb hk))
      | (go_at_call 25; refine (H1.out _ _ _ _ _ D2.out.C.1 D2.out.C.2.1 D2.out.C.2.2.1 D2.out.C.2.2.2).mono ?_; rintro E w3 ⟨rfl, hb⟩; have z3 := hb.size; have D3 := Lib.hid (D2.out.below hb); have BA3 := Lib.hid (BA2.out.below hb); have bac3 := BA3.out.c0; have bad3 := BA3.out.c1; (try clear bac2 bad2); have K3 := Lib.hid (below_then K2.out hb K2.out.size); clear hb)
      | (go_at_call 27; rw [← WW5.out]; refine (H2.out _ _ _ _ _ X5.out.C.1 X5.out.C.2.1 X5.out.C.2.2.1 X5.out.C.2.2.2).mono ?_; rintro E w6 ⟨rfl, hb⟩; have z6 := hb.size; have X6 := Lib.hid (X5.out.below hb); have BA6 := Lib.hid (BA5.out.below hb); have bac6 := BA6.out.c0; have bad6 := BA6.out.c1; (try clear bac5 bad5); have BX6 := Lib.hid (BX5.out.below hb); have bxc6 := BX6.out.c0; have bxd6 := BX6.out.c1; (try clear bxc5 bxd5); have K6 := Lib.hid (below_then K5.out hb K5.out.size); clear hb)
      | fail)
    obtain ⟨R, hR⟩ : ∃ R : World → Prop, R = fun W => OwnM W w3.heap.size w4.heap.size (.slice A4 P.length c4) (.slice B4 T.length e4) P T ∧ Below w.heap.size w W ∧ w6.heap.size ≤ W.heap.size := ⟨_, rfl⟩
    have hRb : ∀ W W', R W → Below W.heap.size W W' → R W' := by rw [hR]; rintro W W' ⟨x1, x4, x5⟩ hb; exact ⟨x1.below hb, below_then x4 hb x4.size, Nat.le_trans x5 hb.size⟩
    have hR0 : R w6 := by rw [hR]; exact ⟨X6.out, K6.out, Nat.le_refl _⟩
    have hRK : ∀ W, R W → Below w.heap.size w W := by rw [hR]; rintro W ⟨_, x4, _⟩; exact x4
    have hRX : ∀ W, R W → OwnM W w3.heap.size w4.heap.size (.slice A4 P.length c4) (.slice B4 T.length e4) P T := by rw [hR]; rintro W ⟨x1, _⟩; exact x1
    have HRD := Lib.hid hR
    have HRB := Lib.hid hRb
    have HRK := Lib.hid hRK
    have HRX := Lib.hid hRX
    have hS0 : w6.cell? ⟨w.heap.size, 0, none⟩ = some (.slice A L.length c) ∧ w6.cell? ⟨w.heap.size, 1, none⟩ = some (.slice B T.length e) ∧ w6.cell? ⟨w4.heap.size, 0, none⟩ = some (.slice A4 P.length c4) ∧ w6.cell? ⟨w4.heap.size, 1, none⟩ = some (.slice B4 T.length e4) ∧ BoxAt w6 w.heap.size 50 (.slice A L.length c) (.slice B T.length e) ∧ BoxAt w6 w4.heap.size 27 (.slice A4 P.length c4) (.slice B4 T.length e4) ∧ R w6 := ⟨BA6.out.c0, BA6.out.c1, BX6.out.c0, BX6.out.c1, BA6.out, BX6.out, hR0⟩
    clear hR hRb hRK hRX hR0 bac6 bad6 bxc6 bxd6
    go_region_held3 (fun w' => w'.cell? ⟨w.heap.size, 0, none⟩ = some (.slice A L.length c) ∧ w'.cell? ⟨w.heap.size, 1, none⟩ = some (.slice B T.length e) ∧ w'.cell? ⟨w4.heap.size, 0, none⟩ = some (.slice A4 P.length c4) ∧ w'.cell? ⟨w4.heap.size, 1, none⟩ = some (.slice B4 T.length e4) ∧ BoxAt w' w.heap.size 50 (.slice A L.length c) (.slice B T.length e) ∧ BoxAt w' w4.heap.size 27 (.slice A4 P.length c4) (.slice B4 T.length e4) ∧ R w') (first | with_reducible assumption | with_reducible exact keep4 HRB.out (by with_reducible assumption) (by with_reducible assumption) | with_reducible exact keep4d HRB.out (by with_reducible assumption))
      (first | (go_at_call 26; (with_reducible refine (HTO.out _ (HRK.out _ (rest4 (by with_reducible assumption)))).mono ?_); rintro E w7 ⟨A7, c7, B7, e7, rfl, hx, hb, hk⟩; have D7 := Lib.hid hx; clear hx hk) | (go_at_call 21; (with_reducible refine (eq_step P P T HSI.out hb1 HT1.out HT2.out _ _ _ _ _ 0 0 _ _ 0 0 _ _ _ _ _ _ (HRX.out _ (rest4 (by with_reducible assumption))) D7.out).mono ?_); rintro E w8 ⟨rfl, hb⟩))
    all_goals
      rename_i hH
      obtain ⟨_, _, _, _, _, _, hr⟩ := hH
      have K8 := Lib.hid (HRK.out _ hr)
      clear hr HRD HRB HRK HRX hS0
      go_wp2_with fail
      go_ret
      exact ⟨rfl, K8.out⟩

end Go.Proofs.Ytepilofcionekaa
namespace Go.Proofs.Ytepilofcionekaa
open Go.ChangeShapes Go.WideShapes Go.ChangeAt Go.RowKit Go.Deep
open Go.ChangeMaps (open_string shut_string)

/-- A row of cells that can be read from A on; nil has none. -/
def RowIn (w : World) (A : Option Addr) (cs : List Value) : Prop :=
  (A = none ∧ cs = []) ∨ ∃ b off, A = some ⟨b, off, none⟩ ∧ b < w.heap.size ∧ ∀ i v, cs[i]? = some v → w.cell? ⟨b, off + i, none⟩ = some v

section
variable {H : Type} {enc : TypeId × Value → H} {P : Program} {w : World} {base : Nat} {spare : Nat → Bool} {held : Bool}

theorem flt_lt {k : FloatKind} {b : Nat} (h : (Lit.float k b).wf = true) : b < 2 ^ k.format.width := by
  cases k
  · show b < 4294967296; simpa [Lit.wf] using h
  · show b < 18446744073709551616; simpa [Lit.wf] using h

theorem op_float {r : Reach} {b0 : Nat} {t : TypeId} {k : FloatKind} {v : Value} {d : DataW H} {ps : List MemPlace} (ht : P.underlying t = some (.float k)) (hval : Value.okWide P w r b0 t v) (hd : DataW.Trod enc P w base spare held t v d ps) :
    ∃ b, b < 2 ^ k.format.width ∧ v = .float k b := by
  obtain ⟨b, rfl, _, _, hw⟩ := open_float ht hval hd
  exact ⟨b, flt_lt hw, rfl⟩

theorem op_int {r : Reach} {b0 : Nat} {t : TypeId} {k : IntKind} {v : Value} {d : DataW H} {ps : List MemPlace} (ht : P.underlying t = some (.int k)) (hval : Value.okWide P w r b0 t v) (hd : DataW.Trod enc P w base spare held t v d ps) :
    ∃ n, (k.min ≤ n ∧ n ≤ k.max) ∧ v = .int k n := by
  obtain ⟨n, rfl, _, _, hw⟩ := open_int ht hval hd
  exact ⟨n, by simpa [Lit.wf] using hw, rfl⟩

theorem op_string {r : Reach} {b0 : Nat} {t : TypeId} {v : Value} {d : DataW H} {ps : List MemPlace} (ht : P.underlying t = some .string) (hval : Value.okWide P w r b0 t v) (hd : DataW.Trod enc P w base spare held t v d ps) :
    ∃ s : ByteArray, s.size ≤ maxLen ∧ v = .string s := by
  obtain ⟨s, rfl, _, _, hw⟩ := open_string ht hval hd
  exact ⟨s, hw, rfl⟩

theorem trod_float {t : TypeId} {k : FloatKind} {n : Nat} {v : Value} {x : DataW H × List MemPlace} (ht : P.underlying t = some (.float k)) (h : DataW.trod enc P w base spare held n t [v] = some x) :
    ∃ b, b < 2 ^ k.format.width ∧ v = .float k b := by
  cases n with
  | zero => simp [DataW.trod] at h
  | succ n =>
    simp only [DataW.trod, ht] at h
    cases v <;> simp at h
    rename_i k' b
    obtain ⟨⟨rfl, hw⟩, _⟩ := h
    exact ⟨b, flt_lt hw, rfl⟩

theorem op_vec {r : Reach} {b0 : Nat} {t f : TypeId} {F : Array Field} {v : Value} {d : DataW H} {p : List MemPlace} (hs : P.underlying t = some (.struct F)) (hf : P.underlying f = some (.float .f32))
    (hF : (F.map (·.type)) = #[f, f, f]) (hone0 : oneCellFields P F = true) (hC : P.cellsOf t = 3)
    (hv : Value.okWide P w r b0 t v) (h : DataW.Trod enc P w base spare held t v d p) :
    ∃ x y z : Nat, x < 2 ^ 32 ∧ y < 2 ^ 32 ∧ z < 2 ^ 32 ∧ v = .agg #[.float .f32 x, .float .f32 y, .float .f32 z] := by
  obtain ⟨F⟩ := F
  have hl : F.length = 3 := by simpa using congrArg Array.size hF
  match F, hl with
  | [f0, f1, f2], _ =>
    simp at hF
    obtain ⟨e0, e1, e2⟩ := hF
    have hone : oneCellFields P #[f0, f1, f2] = true := hone0
    obtain ⟨v0, v1, v2, y0, y1, y2, n, rfl, _, _, t0, t1, t2⟩ := Joins.open_agg3 hs hone hC hv h
    rw [e0] at t0; rw [e1] at t1; rw [e2] at t2
    obtain ⟨x, hx, rfl⟩ := trod_float hf t0
    obtain ⟨y, hy, rfl⟩ := trod_float hf t1
    obtain ⟨z, hz, rfl⟩ := trod_float hf t2
    exact ⟨x, y, z, hx, hy, hz, rfl⟩
end
end Go.Proofs.Ytepilofcionekaa
namespace Go.Proofs.Ytepilofcionekaa
open Go.ChangeShapes Go.WideShapes Go.ChangeAt Go.RowKit Go.Deep Go.Proofs.YtepilofcionekaaW.PrintWords Go.Proofs.Ytepilofcionekaa.PMesh Msh
set_option linter.unusedVariables false

section
variable {H : Type} {enc : TypeId × Value → H} {P : Program} {w : World} {base : Nat} {held : Bool}

/-- A slice whose elements are opened one by one. -/
theorem op_rows {α : Type} (d : Kd α) (ok : α → Prop) {t e : TypeId} (ht : P.underlying t = some (.slice e)) (hC : P.cellsOf e = d.sz)
    (hel : ∀ (n : Nat) (cs : List Value) (y : DataW H × List MemPlace), DataW.trod enc P w base (fun _ => true) held n e cs = some y → ∃ x : α, d.K w x cs ∧ ok x)
    {fuel : Nat} {cs : List Value} {y : DataW H × List MemPlace} (h : DataW.trod enc P w base (fun _ => true) held fuel t cs = some y) :
    ∃ (A : Option Addr) (c : Nat) (xs : List α), cs = [.slice A xs.length c] ∧ xs.length ≤ c ∧ xs.length ≤ 9223372036854775807 ∧ Kd.C d w A xs.length xs ∧ ∀ x ∈ xs, ok x := by
  rcases open_slice ht h with ⟨rfl, _⟩ | ⟨a, len, cap, m, n, D, Pl, rfl, _, hl, hm, hmm, hyy, hx⟩
  · exact ⟨none, 0, [], rfl, Nat.le_refl _, by simp, Kd.C_nil d w, fun x hx => by simp at hx⟩
  · have hml : len ≤ m := by rw [hmm]; split <;> omega
    have each : ∀ i, i < len → ∃ x : α, (∃ cs', w.cells? base (a.add (i * d.sz)) d.sz = some cs' ∧ d.K w x cs') ∧ ok x := by
      intro i hi
      obtain ⟨cs', hc, ht'⟩ := hx i (by omega)
      rw [hC] at hc
      obtain ⟨x, hk, ho⟩ := hel n cs' _ ht'
      exact ⟨x, ⟨cs', hc, hk⟩, ho⟩
    obtain ⟨xs, hxl, hxs⟩ : ∃ xs : List α, xs.length = len ∧ ∀ i x, xs[i]? = some x → (∃ cs', w.cells? base (a.add (i * d.sz)) d.sz = some cs' ∧ d.K w x cs') ∧ ok x := by
      clear hx hml hmm hl hm hyy h
      induction len with
      | zero => exact ⟨[], rfl, fun i x hx => by simp at hx⟩
      | succ k ih =>
        obtain ⟨xs, hl, hx⟩ := ih (fun i hi => each i (by omega))
        obtain ⟨z, hz⟩ := each k (by omega)
        refine ⟨xs ++ [z], by simp [hl], fun i x hix => ?_⟩
        rcases Nat.lt_or_ge i xs.length with h' | h'
        · rw [List.getElem?_append_left h'] at hix
          exact hx i x hix
        · rw [List.getElem?_append_right h'] at hix
          have : i - xs.length = 0 := by
            rcases Nat.eq_zero_or_pos (i - xs.length) with h0 | h0
            · exact h0
            · rw [List.getElem?_eq_none (by simp; omega)] at hix; cases hix
          obtain rfl : i = k := by omega
          rw [this] at hix
          cases hix
          exact hz
    have hM : maxLen = 9223372036854775807 := rfl
    subst hxl
    refine ⟨some a, cap, xs, rfl, hl, by omega, ⟨rfl, by omega, fun _ => ⟨a, rfl, fun j p hj => ?_⟩⟩, fun x hxm => ?_⟩
    · obtain ⟨⟨cs', hc, hk⟩, _⟩ := hxs j p hj
      obtain ⟨_, hcl, hat⟩ := World.cells?_some hc
      refine ⟨cs', hcl, hk, fun i u hu => ?_⟩
      have hi : i < d.sz := by
        rcases Nat.lt_or_ge i cs'.length with h' | h'
        · omega
        · rw [List.getElem?_eq_none h'] at hu; cases hu
      have := hat i hi
      rw [Go.Deep.add_add] at this
      rw [this, hu]
    · obtain ⟨i, hi, rfl⟩ := List.getElem_of_mem hxm
      exact (hxs i _ (List.getElem?_eq_getElem hi)).2

theorem trod_int1 {t : TypeId} {k : IntKind} {n : Nat} {cs : List Value} {x : DataW H × List MemPlace} (ht : P.underlying t = some (.int k)) (hC : P.cellsOf t = 1) (h : DataW.trod enc P w base (fun _ => true) held n t cs = some x) :
    ∃ b : Int, cs = [.int k b] ∧ (Lit.int k b).wf = true := by
  cases n with
  | zero => simp [DataW.trod] at h
  | succ n =>
    simp only [DataW.trod, ht] at h
    match cs with
    | [] => simp at h
    | [v] =>
      cases v <;> simp at h
      rename_i k' b
      obtain ⟨⟨rfl, hw⟩, _⟩ := h
      exact ⟨b, rfl, hw⟩
    | _ :: _ :: _ => simp at h

theorem op_tris {t e q : TypeId} (ht : P.underlying t = some (.slice e)) (he : P.underlying e = some (.slice q)) (hq : P.underlying q = some (.int .i64)) (ce : P.cellsOf e = 1) (cq : P.cellsOf q = 1)
    {fuel : Nat} {cs : List Value} {y : DataW H × List MemPlace} (h : DataW.trod enc P w base (fun _ => true) held fuel t cs = some y) :
    ∃ (A : Option Addr) (c : Nat) (T : List (List Int)), cs = [.slice A T.length c] ∧ T.length ≤ c ∧ T.length ≤ 9223372036854775807 ∧ Kd.C (Kd.slice q (Kd.int .i64)) w A T.length T ∧ ∀ t ∈ T, t.length ≤ 9223372036854775807 := by
  refine op_rows (Kd.slice q (Kd.int .i64)) (fun t => t.length ≤ 9223372036854775807) ht ce (fun n cs y hy => ?_) h
  obtain ⟨A, c, xs, rfl, hc, hl, hC, _⟩ := op_rows (Kd.int .i64) (fun _ => True) he cq (fun n cs y hy => by
    obtain ⟨b, rfl, _⟩ := trod_int1 hq cq hy
    exact ⟨b, rfl, trivial⟩) hy
  exact ⟨xs, ⟨A, c, rfl, hc, hC⟩, hl⟩

theorem op_vrow {t f : TypeId} {f0 f1 f2 : Field} {n : Nat} {cs : List Value} {x : DataW H × List MemPlace} (hs : P.underlying t = some (.struct #[f0, f1, f2])) (hf : P.underlying f = some (.float .f32)) (e0 : f0.type = f) (e1 : f1.type = f) (e2 : f2.type = f)
    (hone : oneCellFields P #[f0, f1, f2] = true) (hC : P.cellsOf t = 3) (h : DataW.trod enc P w base (fun _ => true) held n t cs = some x) :
    ∃ a b c : Nat, a < 4294967296 ∧ b < 4294967296 ∧ c < 4294967296 ∧ cs = [.float .f32 a, .float .f32 b, .float .f32 c] := by
  obtain ⟨y0, y1, y2, m, _, hl, t0, t1, t2⟩ := trod_struct3 hs h
  rw [hC] at hl
  obtain ⟨o0, k0⟩ := hone_of hone 0 f0 rfl
  obtain ⟨o1, k1⟩ := hone_of hone 1 f1 rfl
  obtain ⟨o2, k2⟩ := hone_of hone 2 f2 rfl
  match cs, hl with
  | [v0, v1, v2], _ =>
    rw [o0, k0, e0] at t0
    rw [o1, k1, e1] at t1
    rw [o2, k2, e2] at t2
    obtain ⟨a, ha, rfl⟩ := trod_float (v := v0) hf t0
    obtain ⟨b, hb, rfl⟩ := trod_float (v := v1) hf t1
    obtain ⟨c, hc, rfl⟩ := trod_float (v := v2) hf t2
    exact ⟨a, b, c, ha, hb, hc, rfl⟩

theorem op_mesh {r : Reach} {b0 : Nat} {t tp tv tf tt ts ti : TypeId} {F G : Array Field} {v : Value} {d : DataW H} {p : List MemPlace}
    (hs : P.underlying t = some (.struct F)) (hF : (F.map (·.type)) = #[tp, tt]) (hone : oneCellFields P F = true) (hC : P.cellsOf t = 2)
    (hp : P.underlying tp = some (.slice tv)) (hv : P.underlying tv = some (.struct G)) (hG : (G.map (·.type)) = #[tf, tf, tf]) (honeG : oneCellFields P G = true) (hCv : P.cellsOf tv = 3) (hf : P.underlying tf = some (.float .f32))
    (ht : P.underlying tt = some (.slice ts)) (hts : P.underlying ts = some (.slice ti)) (hti : P.underlying ti = some (.int .i64)) (cs1 : P.cellsOf ts = 1) (ci : P.cellsOf ti = 1)
    (hval : Value.okWide P w r b0 t v) (h : DataW.Trod enc P w base (fun _ => true) held t v d p) :
    ∃ (A : Option Addr) (c : Nat) (L : List S122) (B : Option Addr) (e : Nat) (T : List (List Int)), v = .agg #[.slice A L.length c, .slice B T.length e] ∧ Kd.C k122 w A L.length L ∧ L.length ≤ c ∧ Kd.C (Kd.slice ti (Kd.int .i64)) w B T.length T ∧ T.length ≤ e ∧ MeshOk L T := by
  obtain ⟨F⟩ := F
  obtain ⟨G⟩ := G
  have hl : F.length = 2 := by simpa using congrArg Array.size hF
  have hlG : G.length = 3 := by simpa using congrArg Array.size hG
  match F, hl, G, hlG with
  | [f0, f1], _, [g0, g1, g2], _ =>
    simp at hF hG
    obtain ⟨e0, e1⟩ := hF
    obtain ⟨e2, e3, e4⟩ := hG
    obtain ⟨v0, v1, y0, y1, n, rfl, _, _, t0, t1⟩ := Joins.open_agg2 hs hone hC hval h
    rw [e0] at t0
    rw [e1] at t1
    obtain ⟨A, c, L, hA, hc, hL, hCL, hok⟩ := op_rows k122 (fun x => x.f0 < 4294967296 ∧ x.f1 < 4294967296 ∧ x.f2 < 4294967296) hp hCv (fun n cs y hy => by
      obtain ⟨a, b, c, ha, hb, hc, rfl⟩ := op_vrow hv hf e2 e3 e4 honeG hCv hy
      exact ⟨⟨a, b, c⟩, k122_mk w ⟨a, b, c⟩, ha, hb, hc⟩) t0
    obtain ⟨B, e, T, hB, he, hT, hCT, hr⟩ := op_tris ht hts hti cs1 ci t1
    cases hA
    cases hB
    exact ⟨A, c, L, B, e, T, rfl, hCL, hc, hCT, he, ⟨hL, hT, hr, hok⟩⟩
end
end Go.Proofs.Ytepilofcionekaa
