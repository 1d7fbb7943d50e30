/-
  The proof's texts, one behind the other: XM1 XMmark XMrows XM2 XMlaw XUpie0 XMref XMcopy XMval XUpie1 XUat XUpie2 XUedge0 XUedge1 XUpie3 XUvar XUpies XUpiel XOpen XMopen.
-/
import Derived.Test.YtepilofcionekaaFw
import Derived.Test.YtepilofcionekaaPMeshx4
import Derived.Test.YtepilofcionekaaPMeshx9
import Derived.Test.YtepilofcionekaaPMeshx15
import Derived.Test.YtepilofcionekaaPMeshx24
import Derived.Test.YtepilofcionekaaPMeshx35
import Derived.Test.YtepilofcionekaaPMeshx16
import Derived.Lib.Hide
import Derived.OwnWalk
import Derived.Test.YtepilofcionekaaPMeshx18
import Derived.Test.YtepilofcionekaaPMeshx36
import Derived.Test.YtepilofcionekaaPMeshx23
import Derived.Deep.RegionHeld3
import Derived.Test.YtepilofcionekaaPMeshx26
import Derived.Test.YtepilofcionekaaPMeshx29
import Derived.Laws.Cover2
import Derived.ProofKit
import Derived.WalkKit
import Derived.OpenShut
import Derived.Lib.SmallJoins
import Derived.Deep.Slices
import Derived.ChangeSame
namespace Go.Proofs.Ytepilofcionekaa.Msh
open Fl Go.RowKit Go.Proofs.YtepilofcionekaaW.PrintWords Go.Proofs.Ytepilofcionekaa.PMesh
set_option linter.unusedVariables false
set_option linter.unusedSimpArgs false

theorem wrap_fit {x : Int} (h0 : -9223372036854775808 ≤ x) (h1 : x ≤ 9223372036854775807) : wrap64 x = x := by unfold wrap64; omega

theorem rdI (l : List Int) (i : Nat) (h : i < l.length) : rd l (i : Int) = l[i] := by
  unfold rd
  rw [Int.toNat_natCast, List.getD_eq_getElem?_getD, List.getElem?_eq_getElem h]; rfl
theorem rdL (l : List (List Int)) (i : Nat) (h : i < l.length) : rd_L3 l (i : Int) = l[i] := by
  unfold rd_L3
  rw [Int.toNat_natCast, List.getD_eq_getElem?_getD, List.getElem?_eq_getElem h]; rfl
theorem rdV (l : List S42) (i : Nat) (h : i < l.length) : rd_T42 l (i : Int) = l[i] := by
  unfold rd_T42
  rw [Int.toNat_natCast, List.getD_eq_getElem?_getD, List.getElem?_eq_getElem h]; rfl
theorem rdW (l : List S122) (i : Nat) (h : i < l.length) : rd_T122 l (i : Int) = l[i] := by
  unfold rd_T122
  rw [Int.toNat_natCast, List.getD_eq_getElem?_getD, List.getElem?_eq_getElem h]; rfl

theorem up (i : Nat) (h : i ≤ 9223372036854775806) : wrap64 ((i : Int) + 1) = ((i + 1 : Nat) : Int) := by rw [wrap_fit (by omega) (by omega)]; omega

/-! sizes -/
theorem sz_loop (T : List (List Int)) (hr : ∀ t ∈ T, t.length ≤ 9223372036854775807) (hT : T.length ≤ 1048576) (d : Nat) : ∀ (k i : Nat) (a : Int), i ≤ T.length → T.length - i = d → d < k → 0 ≤ a → a ≤ 1048576 →
    ∃ r, laws_szInt64SS.l0 k T a (i : Int) = some r ∧ r ≤ 1048576 ∧ (0 ≤ r → ∀ j, i ≤ j → (h : j < T.length) → T[j].length ≤ 1048576) := by
  induction d with
  | zero =>
    intro k i a hi hd hk h0 h1
    obtain ⟨k, rfl⟩ : ∃ j, k = j + 1 := ⟨k - 1, by omega⟩
    simp only [laws_szInt64SS.l0]
    rw [if_neg (by omega)]
    exact ⟨a, rfl, h1, fun _ j hij hj => by omega⟩
  | succ d ih =>
    intro k i a hi hd hk h0 h1
    obtain ⟨k, rfl⟩ : ∃ j, k = j + 1 := ⟨k - 1, by omega⟩
    have hlt : i < T.length := by omega
    have hl := hr T[i] (List.getElem_mem hlt)
    simp only [laws_szInt64SS.l0]
    rw [if_pos (by omega), if_pos (by omega), rdL T i hlt]
    unfold laws_szInt64S.f
    rw [wrap_fit (by omega) (by omega)]
    by_cases hneg : a - (T[i].length : Int) < 0
    · rw [if_pos hneg]
      simp only [Option.bind_some]
      rw [if_pos (by decide)]
      exact ⟨-1, rfl, by decide, fun h => by omega⟩
    · rw [if_neg hneg]
      simp only [Option.bind_some]
      rw [if_neg hneg, up i (by omega)]
      obtain ⟨r, e, hr1, h⟩ := ih k (i + 1) (a - (T[i].length : Int)) (by omega) (by omega) (by omega) (by omega) (by omega)
      refine ⟨r, e, hr1, fun h0 j hij hj => ?_⟩
      rcases Nat.lt_or_ge i j with hlt' | hge
      · exact h h0 j hlt' hj
      · obtain rfl : i = j := by omega
        omega

theorem szMesh_f (Pl : List S122) (T : List (List Int)) (hP : Pl.length ≤ 9223372036854775807) (hT : T.length ≤ 9223372036854775807) (hr : ∀ t ∈ T, t.length ≤ 9223372036854775807) (k : Nat) (hk : 1048577 < k) (a : Int) (ha : 0 ≤ a) (ha1 : a ≤ 1048576) :
    ∃ r, laws_szMesh.f k Pl T a = some r ∧ r ≤ 1048576 ∧ (0 ≤ r → Pl.length ≤ 1048576 ∧ T.length ≤ 1048576 ∧ ∀ t ∈ T, t.length ≤ 1048576) := by
  unfold laws_szMesh.f laws_szVectorS.f
  rw [wrap_fit (by omega) (by omega)]
  by_cases h1 : a - (Pl.length : Int) < 0
  · rw [if_pos h1]
    simp only [Option.bind_some]
    rw [if_pos (by decide)]
    exact ⟨-1, rfl, by decide, fun h => by omega⟩
  · rw [if_neg h1]
    simp only [Option.bind_some]
    rw [if_neg h1]
    unfold laws_szInt64SS.f
    rw [wrap_fit (by omega) (by omega)]
    by_cases h2 : a - (Pl.length : Int) - (T.length : Int) < 0
    · rw [if_pos h2]
      simp only [Option.bind_some]
      rw [if_pos (by decide)]
      exact ⟨-1, rfl, by decide, fun h => by omega⟩
    · rw [if_neg h2]
      obtain ⟨r, e, hr1, h⟩ := sz_loop T hr (by omega) T.length k 0 _ (by omega) (by omega) (by omega) (Int.not_lt.1 h2) (by omega)
      rw [show ((0 : Nat) : Int) = 0 from rfl] at e
      rw [e]
      simp only [Option.bind_some]
      by_cases h3 : r < 0
      · rw [if_pos h3]
        exact ⟨-1, rfl, by decide, fun h => by omega⟩
      · rw [if_neg h3]
        refine ⟨r, rfl, hr1, fun h0 => ⟨by omega, by omega, fun t ht => ?_⟩⟩
        obtain ⟨j, hj, rfl⟩ := List.getElem_of_mem ht
        exact h h0 j (by omega) hj

/-! copies -/
def toV (x : S122) : S42 := ⟨x.f0, x.f1, x.f2⟩

theorem toI_loop (l : List Int) (hl : l.length ≤ 1048576) (d : Nat) : ∀ (k i : Nat) (out : List Int), i ≤ l.length → l.length - i = d → d < k → out.length = l.length → (∀ j, j < i → out[j]? = l[j]?) → laws_toInt64S.l0 k l out (i : Int) = some l := by
  induction d with
  | zero =>
    intro k i out hi hd hk ho hj
    obtain ⟨k, rfl⟩ : ∃ j, k = j + 1 := ⟨k - 1, by omega⟩
    simp only [laws_toInt64S.l0]
    rw [if_neg (by omega)]
    congr 1
    apply List.ext_getElem?
    intro j
    rcases Nat.lt_or_ge j i with h | h
    · exact hj j h
    · rw [List.getElem?_eq_none (by omega), List.getElem?_eq_none (by omega)]
  | succ d ih =>
    intro k i out hi hd hk ho hj
    obtain ⟨k, rfl⟩ : ∃ j, k = j + 1 := ⟨k - 1, by omega⟩
    have hil : i < l.length := by omega
    simp only [laws_toInt64S.l0]
    rw [if_pos (by omega), if_pos (by omega), if_pos (by omega), rdI l i hil, up i (by omega), Int.toNat_natCast]
    refine ih k (i + 1) _ (by omega) (by omega) (by omega) (by rw [List.length_set]; exact ho) (fun j hji => ?_)
    by_cases e : j = i
    · subst e; rw [List.getElem?_set_self (by omega), List.getElem?_eq_getElem hil]
    · rw [List.getElem?_set_ne (by omega)]; exact hj j (by omega)

theorem toI_f (l : List Int) (hl : l.length ≤ 1048576) (k : Nat) (hk : 1048577 < k) : laws_toInt64S.f k l = some l := by
  unfold laws_toInt64S.f
  rw [if_pos (by omega), Int.toNat_natCast, if_pos (by omega)]
  exact toI_loop l hl l.length k 0 _ (by omega) (by omega) (by omega) (by simp) (fun j hj => absurd hj (Nat.not_lt_zero _))

theorem toT_loop (T : List (List Int)) (hl : T.length ≤ 1048576) (hr : ∀ t ∈ T, t.length ≤ 1048576) (d : Nat) : ∀ (k i : Nat) (out : List (List Int)), i ≤ T.length → T.length - i = d → d + 1048578 < k → out.length = T.length → (∀ j, j < i → out[j]? = T[j]?) → laws_toInt64SS.l0 k T out (i : Int) = some T := by
  induction d with
  | zero =>
    intro k i out hi hd hk ho hj
    obtain ⟨k, rfl⟩ : ∃ j, k = j + 1 := ⟨k - 1, by omega⟩
    simp only [laws_toInt64SS.l0]
    rw [if_neg (by omega)]
    congr 1
    apply List.ext_getElem?
    intro j
    rcases Nat.lt_or_ge j i with h | h
    · exact hj j h
    · rw [List.getElem?_eq_none (by omega), List.getElem?_eq_none (by omega)]
  | succ d ih =>
    intro k i out hi hd hk ho hj
    obtain ⟨k, rfl⟩ : ∃ j, k = j + 1 := ⟨k - 1, by omega⟩
    have hil : i < T.length := by omega
    simp only [laws_toInt64SS.l0]
    rw [if_pos (by omega), if_pos (by omega), rdL T i hil, toI_f _ (hr _ (List.getElem_mem hil)) k (by omega)]
    simp only [Option.bind_some]
    rw [if_pos (by omega), up i (by omega), Int.toNat_natCast]
    refine ih k (i + 1) _ (by omega) (by omega) (by omega) (by rw [List.length_set]; exact ho) (fun j hji => ?_)
    by_cases e : j = i
    · subst e; rw [List.getElem?_set_self (by omega), List.getElem?_eq_getElem hil]
    · rw [List.getElem?_set_ne (by omega)]; exact hj j (by omega)

theorem toP_loop (L : List S122) (hl : L.length ≤ 1048576) (d : Nat) : ∀ (k i : Nat) (out : List S42), i ≤ L.length → L.length - i = d → d < k → out.length = L.length → (∀ j, j < i → out[j]? = (L.map toV)[j]?) → laws_toVectorS.l0 k L out (i : Int) = some (L.map toV) := by
  induction d with
  | zero =>
    intro k i out hi hd hk ho hj
    obtain ⟨k, rfl⟩ : ∃ j, k = j + 1 := ⟨k - 1, by omega⟩
    simp only [laws_toVectorS.l0]
    rw [if_neg (by omega)]
    congr 1
    apply List.ext_getElem?
    intro j
    rcases Nat.lt_or_ge j i with h | h
    · exact hj j h
    · rw [List.getElem?_eq_none (by omega), List.getElem?_eq_none (by rw [List.length_map]; omega)]
  | succ d ih =>
    intro k i out hi hd hk ho hj
    obtain ⟨k, rfl⟩ : ∃ j, k = j + 1 := ⟨k - 1, by omega⟩
    have hil : i < L.length := by omega
    simp only [laws_toVectorS.l0]
    rw [if_pos (by omega), if_pos (by omega), rdW L i hil]
    unfold laws_toVector.f
    simp only [Option.bind_some]
    rw [if_pos (by omega), up i (by omega), Int.toNat_natCast]
    refine ih k (i + 1) _ (by omega) (by omega) (by omega) (by rw [List.length_set]; exact ho) (fun j hji => ?_)
    by_cases e : j = i
    · subst e; rw [List.getElem?_set_self (by omega), List.getElem?_map, List.getElem?_eq_getElem hil]; rfl
    · rw [List.getElem?_set_ne (by omega)]; exact hj j (by omega)

theorem toMesh_f (L : List S122) (T : List (List Int)) (hL : L.length ≤ 1048576) (hT : T.length ≤ 1048576) (hr : ∀ t ∈ T, t.length ≤ 1048576) (k : Nat) (hk : 2097155 < k) : laws_toMesh.f k L T = some (L.map toV, T) := by
  unfold laws_toMesh.f laws_toVectorS.f
  rw [if_pos (by omega), Int.toNat_natCast, if_pos (by omega)]
  have h1 := toP_loop L hL L.length k 0 (List.replicate L.length z42) (by omega) (by omega) (by omega) (by simp) (fun j hj => absurd hj (Nat.not_lt_zero _))
  rw [show ((0 : Nat) : Int) = 0 from rfl] at h1
  rw [h1]
  simp only [Option.bind_some]
  unfold laws_toInt64SS.f
  rw [if_pos (by omega), Int.toNat_natCast, if_pos (by omega)]
  have h2 := toT_loop T hT hr T.length k 0 (List.replicate T.length []) (by omega) (by omega) (by omega) (by simp) (fun j hj => absurd hj (Nat.not_lt_zero _))
  rw [show ((0 : Nat) : Int) = 0 from rfl] at h2
  rw [h2]
  rfl

/-! equal meshes -/
/-- A vector of floats below 2^32. -/
def okV (x : S42) : Prop := x.f0 < 4294967296 ∧ x.f1 < 4294967296 ∧ x.f2 < 4294967296
/-- Vectors with the same values. -/
def simV (x y : S42) : Prop := simF x.f0 y.f0 = true ∧ simF x.f1 y.f1 = true ∧ simF x.f2 y.f2 = true
theorem simV_self {x : S42} (h : okV x) : simV x x := ⟨simF_self h.1, simF_self h.2.1, simF_self h.2.2⟩
def simP (a b : List S42) : Prop := a.length = b.length ∧ ∀ (i : Nat) (ha : i < a.length) (hb : i < b.length), simV a[i] b[i]
theorem simP_self {a : List S42} (h : ∀ x ∈ a, okV x) : simP a a := ⟨rfl, fun i ha _ => simV_self (h _ (List.getElem_mem ha))⟩

theorem eqV_loop (a b : List S42) (hl : a.length ≤ 1048576) (h : simP a b) (d : Nat) : ∀ (k i : Nat), i ≤ a.length → a.length - i = d → d < k → laws_eqVectorS.l0 k a b (i : Int) = some true := by
  have hab := h.1
  induction d with
  | zero =>
    intro k i hi hd hk
    obtain ⟨k, rfl⟩ : ∃ j, k = j + 1 := ⟨k - 1, by omega⟩
    simp only [laws_eqVectorS.l0]
    rw [if_neg (by omega)]
  | succ d ih =>
    intro k i hi hd hk
    obtain ⟨k, rfl⟩ : ∃ j, k = j + 1 := ⟨k - 1, by omega⟩
    have hia : i < a.length := by omega
    have hib : i < b.length := by omega
    simp only [laws_eqVectorS.l0]
    rw [if_pos (by omega), if_pos (by omega), if_pos (by omega), rdV a i hia, rdV b i hib]
    unfold laws_eqVector.f
    have hs := h.2 i hia hib
    unfold simV at hs
    rw [if_pos hs]
    simp only [Option.bind_some]
    rw [if_pos trivial, up i (by omega)]
    exact ih k (i + 1) (by omega) (by omega) (by omega)

theorem eqI_loop (l : List Int) (hl : l.length ≤ 1048576) (d : Nat) : ∀ (k i : Nat), i ≤ l.length → l.length - i = d → d < k → laws_eqInt64S.l0 k l l (i : Int) = some true := by
  induction d with
  | zero =>
    intro k i hi hd hk
    obtain ⟨k, rfl⟩ : ∃ j, k = j + 1 := ⟨k - 1, by omega⟩
    simp only [laws_eqInt64S.l0]
    rw [if_neg (by omega)]
  | succ d ih =>
    intro k i hi hd hk
    obtain ⟨k, rfl⟩ : ∃ j, k = j + 1 := ⟨k - 1, by omega⟩
    simp only [laws_eqInt64S.l0]
    rw [if_pos (by omega), if_pos (by omega), if_pos (by omega), if_pos trivial, up i (by omega)]
    exact ih k (i + 1) (by omega) (by omega) (by omega)

theorem eqI_f (l : List Int) (hl : l.length ≤ 1048576) (k : Nat) (hk : 1048577 < k) : laws_eqInt64S.f k l l = some true := by
  unfold laws_eqInt64S.f
  rw [if_pos rfl]
  exact eqI_loop l hl l.length k 0 (by omega) (by omega) (by omega)

theorem eqT_loop (T : List (List Int)) (hl : T.length ≤ 1048576) (hr : ∀ t ∈ T, t.length ≤ 1048576) (d : Nat) : ∀ (k i : Nat), i ≤ T.length → T.length - i = d → d + 1048578 < k → laws_eqInt64SS.l0 k T T (i : Int) = some true := by
  induction d with
  | zero =>
    intro k i hi hd hk
    obtain ⟨k, rfl⟩ : ∃ j, k = j + 1 := ⟨k - 1, by omega⟩
    simp only [laws_eqInt64SS.l0]
    rw [if_neg (by omega)]
  | succ d ih =>
    intro k i hi hd hk
    obtain ⟨k, rfl⟩ : ∃ j, k = j + 1 := ⟨k - 1, by omega⟩
    have hil : i < T.length := by omega
    simp only [laws_eqInt64SS.l0]
    rw [if_pos (by omega), if_pos (by omega), if_pos (by omega), rdL T i hil, eqI_f _ (hr _ (List.getElem_mem hil)) k (by omega)]
    simp only [Option.bind_some]
    rw [if_pos trivial, up i (by omega)]
    exact ih k (i + 1) (by omega) (by omega) (by omega)

theorem eqMesh_f (a b : List S42) (T : List (List Int)) (h : simP a b) (hL : a.length ≤ 1048576) (hT : T.length ≤ 1048576) (hr : ∀ t ∈ T, t.length ≤ 1048576) (k : Nat) (hk : 2097155 < k) : laws_eqMesh.f k a T b T = some true := by
  unfold laws_eqMesh.f laws_eqVectorS.f
  have hab := h.1
  have h1 := eqV_loop a b hL h a.length k 0 (by omega) (by omega) (by omega)
  have h2 := eqT_loop T hT hr T.length k 0 (by omega) (by omega) (by omega)
  rw [show ((0 : Nat) : Int) = 0 from rfl] at h1 h2
  rw [if_pos (by omega), h1]
  simp only [Option.bind_some]
  rw [if_pos trivial]
  unfold laws_eqInt64SS.f
  rw [if_pos rfl, h2]
  rfl

/-! valid meshes -/
def inB (n : Nat) (p : Int) : Bool := decide (0 ≤ p ∧ p < (n : Int))
/-- A triangle of n places. -/
def triB (n : Nat) (t : List Int) : Bool := match t with
  | [a, b, c] => decide (a ≠ b) && decide (b ≠ c) && decide (a ≠ c) && inB n a && inB n b && inB n c
  | _ => false
def validB (n : Nat) (T : List (List Int)) : Bool := decide (n ≤ 64) && decide (T.length ≤ 128) && T.all (triB n)

theorem in_f (n : Nat) (hn : n ≤ 64) (p : Int) : spec_l00In.f p 0 (wrap64 ((n : Int) - 1)) = some (inB n p) := by
  unfold spec_l00In.f inB
  rw [wrap_fit (by omega) (by omega)]
  by_cases h : p ≥ 0
  · rw [if_pos h]; congr 1; rw [decide_eq_decide]; omega
  · rw [if_neg h]; congr 1; symm; rw [decide_eq_false_iff_not]; omega
theorem within_f (n : Nat) (hn : n ≤ 64) (p : Int) : impl_within.f p 0 (wrap64 ((n : Int) - 1)) = some (inB n p) := in_f n hn p

theorem tri3 {t : List Int} (h : t.length = 3) : ∃ a b c, t = [a, b, c] := by
  match t, h with
  | [a, b, c], _ => exact ⟨a, b, c, rfl⟩
theorem triB_len {n : Nat} {t : List Int} (h : triB n t = true) : t.length = 3 := by
  unfold triB at h
  split at h
  · rfl
  · cases h
theorem triB_not {n : Nat} {t : List Int} (h : ¬ t.length = 3) : triB n t = false := by
  cases e : triB n t
  · rfl
  · exact absurd (triB_len e) h

theorem rd3_0 (a b c : Int) : rd [a, b, c] 0 = a := rfl
theorem rd3_1 (a b c : Int) : rd [a, b, c] 1 = b := rfl
theorem rd3_2 (a b c : Int) : rd [a, b, c] 2 = c := rfl

theorem triB_rd (n : Nat) (t : List Int) (h : t.length = 3) : triB n t = (decide (rd t 0 ≠ rd t 1) && decide (rd t 1 ≠ rd t 2) && decide (rd t 0 ≠ rd t 2) && t.all (inB n)) := by
  obtain ⟨a, b, c, rfl⟩ := tri3 h
  rw [rd3_0, rd3_1, rd3_2]
  simp only [triB, List.all_cons, List.all_nil, Bool.and_true, Bool.and_assoc]

theorem triangle_f (n : Nat) (hn : n ≤ 64) (t : List Int) (k : Nat) (hk : 1 < k) : spec_l02Triangle.f k t (n : Int) = some (triB n t) := by
  obtain ⟨k, rfl⟩ : ∃ j, k = j + 1 := ⟨k - 1, by omega⟩
  unfold spec_l02Triangle.f
  by_cases h3 : t.length = 3
  · obtain ⟨a, b, c, rfl⟩ := tri3 h3
    simp only [spec_l02Triangle.j0, rd3_0, rd3_1, rd3_2, in_f n hn, Option.bind_some]
    simp only [triB, List.length_cons, List.length_nil]
    by_cases e1 : a = b <;> by_cases e2 : b = c <;> by_cases e3 : a = c <;> by_cases i1 : inB n a = true <;> by_cases i2 : inB n b = true <;> simp_all
  · rw [if_neg (by omega)]
    simp only [spec_l02Triangle.j0]
    rw [if_pos trivial, triB_not h3]

theorem is_loop (Q : List S42) (T : List (List Int)) (hn : Q.length ≤ 64) (hT : T.length ≤ 128) (d : Nat) : ∀ (k i : Nat), i ≤ T.length → T.length - i = d → d + 2 < k → spec_l02Is.l0 k (i : Int) Q T = some ((T.drop i).all (triB Q.length)) := by
  induction d with
  | zero =>
    intro k i hi hd hk
    obtain ⟨k, rfl⟩ : ∃ j, k = j + 1 := ⟨k - 1, by omega⟩
    simp only [spec_l02Is.l0]
    rw [if_neg (by omega), List.drop_of_length_le (by omega)]
    rfl
  | succ d ih =>
    intro k i hi hd hk
    obtain ⟨k, rfl⟩ : ∃ j, k = j + 1 := ⟨k - 1, by omega⟩
    have hil : i < T.length := by omega
    have e : T.drop i = T[i] :: T.drop (i + 1) := List.drop_eq_getElem_cons hil
    simp only [spec_l02Is.l0]
    rw [if_pos (by omega), if_pos (by omega), rdL T i hil, triangle_f _ hn _ k (by omega), e, List.all_cons]
    simp only [Option.bind_some]
    by_cases h : triB Q.length T[i] = true
    · rw [if_pos h, up i (by omega), ih k (i + 1) (by omega) (by omega) (by omega), h]; rfl
    · rw [if_neg h, Bool.eq_false_iff.2 h]; rfl

theorem is_f (Q : List S42) (T : List (List Int)) (k : Nat) (hk : 200 < k) : spec_l02Is.f k Q T = some (validB Q.length T) := by
  obtain ⟨k, rfl⟩ : ∃ j, k = j + 1 := ⟨k - 1, by omega⟩
  unfold spec_l02Is.f validB
  by_cases h1 : Q.length ≤ 64
  · rw [if_neg (by omega)]
    simp only [spec_l02Is.j0]
    by_cases h2 : T.length ≤ 128
    · rw [if_neg (by simp; omega)]
      have := is_loop Q T h1 h2 T.length k 0 (by omega) (by omega) (by omega)
      rw [show ((0 : Nat) : Int) = 0 from rfl] at this
      rw [this]
      simp [h1, h2]
    · rw [if_pos (by simp; omega)]
      simp [h2]
  · rw [if_pos (by omega)]
    simp only [spec_l02Is.j0]
    rw [if_pos trivial]
    simp [h1]

theorem vm_inner (T : List (List Int)) (n : Nat) (hn : n ≤ 64) (i : Nat) (t : List Int) (ht : t.length = 3) (d : Nat) : ∀ (k j : Nat), j ≤ 3 → 3 - j = d → d < k →
    ∃ k', k' + d + 1 = k ∧ impl_ValidMesh.l1 k (n : Int) T (T.length : Int) (i : Int) t (t.length : Int) (j : Int) = if (t.drop j).all (inB n) = true then impl_ValidMesh.l0 k' (n : Int) T (T.length : Int) (wrap64 ((i : Int) + 1)) else some false := by
  induction d with
  | zero =>
    intro k j hj hd hk
    obtain ⟨k, rfl⟩ : ∃ j, k = j + 1 := ⟨k - 1, by omega⟩
    refine ⟨k, by omega, ?_⟩
    simp only [impl_ValidMesh.l1]
    rw [if_neg (by omega), List.drop_of_length_le (by omega)]
    rfl
  | succ d ih =>
    intro k j hj hd hk
    obtain ⟨k, rfl⟩ : ∃ j, k = j + 1 := ⟨k - 1, by omega⟩
    have hjl : j < t.length := by omega
    obtain ⟨k', hk', h⟩ := ih k (j + 1) (by omega) (by omega) (by omega)
    refine ⟨k', by omega, ?_⟩
    have e : t.drop j = t[j] :: t.drop (j + 1) := List.drop_eq_getElem_cons hjl
    simp only [impl_ValidMesh.l1]
    rw [if_pos (by omega), if_pos (by omega), if_pos (by omega), rdI t j hjl, within_f n hn, e, List.all_cons]
    simp only [Option.bind_some]
    by_cases hb : inB n t[j] = true
    · rw [if_pos hb, up j (by omega), h, hb, Bool.true_and]
    · rw [if_neg hb, if_neg (by simp [hb])]

theorem vm_loop (n : Nat) (hn : n ≤ 64) (T : List (List Int)) (hT : T.length ≤ 128) (d : Nat) : ∀ (k i : Nat), i ≤ T.length → T.length - i = d → 10 * d + 5 < k → impl_ValidMesh.l0 k (n : Int) T (T.length : Int) (i : Int) = some ((T.drop i).all (triB n)) := by
  induction d with
  | zero =>
    intro k i hi hd hk
    obtain ⟨k, rfl⟩ : ∃ j, k = j + 1 := ⟨k - 1, by omega⟩
    simp only [impl_ValidMesh.l0]
    rw [if_neg (by omega), List.drop_of_length_le (by omega)]
    rfl
  | succ d ih =>
    intro k i hi hd hk
    obtain ⟨k, rfl⟩ : ∃ j, k = j + 2 := ⟨k - 2, by omega⟩
    have hil : i < T.length := by omega
    have e : T.drop i = T[i] :: T.drop (i + 1) := List.drop_eq_getElem_cons hil
    simp only [impl_ValidMesh.l0]
    rw [if_pos (by omega), if_pos (by omega), if_pos (by omega), rdL T i hil, e, List.all_cons]
    by_cases h3 : T[i].length = 3
    · rw [if_pos (by omega), if_pos (by omega), if_pos (by omega)]
      obtain ⟨k', hk', h1⟩ := vm_inner T n hn i T[i] h3 3 k 0 (by omega) (by omega) (by omega)
      have h0 := ih k' (i + 1) (by omega) (by omega) (by omega)
      rw [up i (by omega), h0, List.drop_zero] at h1
      rw [triB_rd n _ h3]
      generalize T[i] = t at *
      have h1' : impl_ValidMesh.l1 k (n : Int) T (T.length : Int) (i : Int) t (t.length : Int) 0 = if t.all (inB n) = true then some ((T.drop (i + 1)).all (triB n)) else some false := h1
      by_cases e1 : rd t 0 = rd t 1
      · rw [if_pos e1]
        simp [impl_ValidMesh.j2, e1]
      · rw [if_neg e1, if_pos (by omega)]
        by_cases e2 : rd t 1 = rd t 2
        · rw [if_pos e2]
          simp [impl_ValidMesh.j2, e2]
        · rw [if_neg e2]
          simp only [impl_ValidMesh.j2]
          by_cases e3 : rd t 0 = rd t 2
          · rw [if_pos (by simp [e3])]
            simp [e3]
          · rw [if_neg (by simp [e3]), h1']
            cases t.all (inB n) <;> simp [e1, e2, e3]
    · rw [if_neg (by omega)]
      simp only [impl_ValidMesh.j2]
      rw [if_pos trivial, triB_not h3]; rfl

theorem valid_f (Q : List S42) (T : List (List Int)) (k : Nat) (hk : 2000 < k) : impl_ValidMesh.f k Q T = some (validB Q.length T) := by
  obtain ⟨k, rfl⟩ : ∃ j, k = j + 1 := ⟨k - 1, by omega⟩
  unfold impl_ValidMesh.f validB
  by_cases h1 : Q.length ≤ 64
  · rw [if_neg (by omega)]
    simp only [impl_ValidMesh.j0]
    by_cases h2 : T.length ≤ 128
    · rw [if_neg (by simp; omega)]
      have := vm_loop Q.length h1 T h2 T.length k 0 (by omega) (by omega) (by omega)
      rw [show ((0 : Nat) : Int) = 0 from rfl] at this
      rw [this]
      simp [h1, h2]
    · rw [if_pos (by simp; omega)]
      simp [h2]
  · rw [if_pos (by omega)]
    simp only [impl_ValidMesh.j0]
    rw [if_pos trivial]
    simp [h1]
end Go.Proofs.Ytepilofcionekaa.Msh
namespace Go.Proofs.Ytepilofcionekaa
open Go.RowKit Go.Proofs.YtepilofcionekaaW.PrintWords Go.Proofs.Ytepilofcionekaa.PMesh Msh
set_option linter.unusedVariables false

/-- a, a + 1, .. -/
def marksA (a : Int) (n : Nat) : List Int := (List.range n).map fun t : Nat => a + (t : Int)
theorem marksA_len (a : Int) (n : Nat) : (marksA a n).length = n := by simp [marksA]
theorem marksA_get (a : Int) (n i : Nat) (h : i < (marksA a n).length) : (marksA a n)[i] = a + (i : Int) := by simp [marksA]

/-- The first i marked. -/
def partA (a : Int) (l : List Int) (i : Nat) : List Int := marksA a i ++ l.drop i
theorem partA_len (a : Int) (l : List Int) (i : Nat) (h : i ≤ l.length) : (partA a l i).length = l.length := by simp [partA, marksA]; omega
theorem partA_all (a : Int) (l : List Int) : partA a l l.length = marksA a l.length := by simp [partA]
theorem partA_set (a : Int) (l : List Int) (i : Nat) (h : i < l.length) : (partA a l i).set i (a + (i : Int)) = partA a l (i + 1) := by
  have e1 : marksA a (i + 1) = marksA a i ++ [a + (i : Int)] := by simp [marksA, List.range_succ]
  have e2 : l.drop i = l[i] :: l.drop (i + 1) := List.drop_eq_getElem_cons h
  have hm : (marksA a i).length = i := marksA_len a i
  unfold partA
  rw [e1, e2, List.set_append, if_neg (by omega), hm, Nat.sub_self, List.set_cons_zero, List.append_assoc]
  rfl

theorem mark_ints (v : Value) (l : List Int) (hl : l.length ≤ 1048576) (a : Int) (ha : 0 ≤ a) (ha1 : a ≤ 1152921504606846976) (w : World) (base : Nat) (h : w.ownsRow base 2 1 v l.length (encs (Value.int .i64) l)) :
    Calls Try.prog 31 #[v, .int .i64 a] w fun e w' => e = .returned (.int .i64 (a + (l.length : Int))) ∧ w'.ownsRow base 2 1 v l.length (encs (Value.int .i64) (marksA a l.length)) ∧ w.grownBy w' v.ownBlock := by
  by_cases h0 : l.length = 0
  · obtain rfl : l = [] := List.length_eq_zero_iff.1 h0
    obtain ⟨A, c, rfl⟩ := own_slice h
    have HO := Lib.hid h
    clear h h0 hl
    show Calls Try.prog 31 #[.slice A 0 c, .int .i64 a] w _
    go_enter Try.func31, Try.ntmps31
    go_wp2_with fail
    go_loopw [1, 5] (fun k i wr => wr = w ∧ k = .int .i64 a ∧ i = .int .i64 0) (fun _ _ _ => 0)
    case atStart => exact ⟨rfl, rfl, rfl⟩
    case round =>
      obtain ⟨rfl, rfl, rfl⟩ := hrel
      go_wp2_with fail
      go_ret
      exact ⟨by simp, HO.out, World.grownBy.refl _ _⟩
  · obtain ⟨g, c, rfl, hgb, hgl⟩ := h.form (by omega)
    have HO := Lib.hid h
    clear h
    go_enter Try.func31, Try.ntmps31
    go_wp2_with fail
    go_loopw [1, 5] (fun k i wr => ∃ j : Nat, j ≤ l.length ∧ k = .int .i64 (a + (j : Int)) ∧ i = .int .i64 (j : Int) ∧ Hid (wr.ownsRow base 2 1 (.slice (some ⟨g, 0, none⟩) l.length c) l.length (encs (Value.int .i64) (partA a l j))) ∧ w.grownBy wr (some g)) (fun _ i _ => l.length - (intOf i).toNat)
    case atStart => exact ⟨0, Nat.zero_le _, by simp, rfl, by exact HO.out, World.grownBy.refl _ _⟩
    case round =>
      obtain ⟨j, hj, rfl, rfl, hO, hg⟩ := hrel
      by_cases hlt : j < l.length
      · have b1 : (j : Int) < (l.length : Int) := by omega
        have b2 : (0 : Int) ≤ (j : Int) := by omega
        have b3 : (j : Int) < 1048576 := by omega
        obtain ⟨hcell, hfr⟩ := own_at_of (d := (0 : Int)) hO.out (j : Int) b2 b1
        obtain ⟨hst, hgs⟩ := own_store_of (enc := Value.int .i64) hO.out (j : Int) (a + (j : Int))
        rw [Int.toNat_natCast] at hcell hfr hst hgs
        rw [partA_set a l j hlt] at hst
        have HST := Lib.hid hst
        have HGS := Lib.hid hgs
        clear hst hgs
        go_wp2_with fail
        go_roundw
        case rel => exact ⟨j + 1, hlt, by first | rfl | (congr 1; omega) | (simp; omega), by simp, by exact HST.out, World.grownBy.trans hg HGS.out⟩
        case measure => simp [intOf]; omega
      · obtain rfl : j = l.length := by omega
        go_wp2_with fail
        go_ret
        refine ⟨rfl, ?_, hg⟩
        have := hO.out
        rw [partA_all] at this
        exact this

theorem held_loopA (a : Int) (ha : 0 ≤ a) (ha1 : a ≤ 1152921504606846976) (n : Nat) (hl : n ≤ 1048576) (d : Nat) : ∀ (k i : Nat), i ≤ n → n - i = d → d < k → laws_heldInt64S.l0 k (marksA a n) (a + (i : Int)) (i : Int) = some (a + (n : Int)) := by
  have hml := marksA_len a n
  induction d with
  | zero =>
    intro k i hi hd hk
    obtain ⟨k, rfl⟩ : ∃ j, k = j + 1 := ⟨k - 1, by omega⟩
    obtain rfl : i = n := by omega
    simp only [laws_heldInt64S.l0]
    rw [if_neg (by omega)]
  | succ d ih =>
    intro k i hi hd hk
    obtain ⟨k, rfl⟩ : ∃ j, k = j + 1 := ⟨k - 1, by omega⟩
    simp only [laws_heldInt64S.l0]
    rw [if_pos (by omega), if_pos (by omega), rdI _ i (by omega), marksA_get, if_pos (by omega), Msh.wrap_fit (by omega) (by omega), up i (by omega), show a + (i : Int) + 1 = a + ((i + 1 : Nat) : Int) by omega]
    exact ih k (i + 1) (by omega) (by omega) (by omega)

theorem held_fA (a : Int) (ha : 0 ≤ a) (ha1 : a ≤ 1152921504606846976) (n : Nat) (hl : n ≤ 1048576) : laws_heldInt64S.f 1048577 (marksA a n) a = some (a + (n : Int)) := by
  unfold laws_heldInt64S.f
  have := held_loopA a ha ha1 n hl n 1048577 0 (by omega) (by omega) (by omega)
  rw [show a + ((0 : Nat) : Int) = a by omega] at this
  exact this

/-- Blocks from a up to b. -/
def In (a b : Nat) (k : Nat) : Prop := a ≤ k ∧ k < b

/-- What was made from base on lies from base up to the world's size. -/
theorem R_in {α : Type} {d : Kd α} {e base : Nat} {w : World} {v : Value} {xs : List α} {ok : Nat → Prop} (h : d.R e w base ok v xs) : d.R e w base (In base w.heap.size) v xs := Kd.R_mono (Kd.R_bound h) (fun k hk => ⟨hk.2.1, hk.2.2.1⟩)
theorem S_in {α : Type} {d : Kd α} {e base : Nat} {w : World} {v : Value} {xs : List α} {ok : Nat → Prop} (h : Kd.S d e w base ok v xs) : Kd.S d e w base (In base w.heap.size) v xs := Kd.S_mono (Kd.S_bound h) (fun k hk => ⟨hk.2.1, hk.2.2.1⟩)

theorem In_off {a b c d : Nat} (h : b ≤ c ∨ d ≤ a) : ∀ k, In a b k → ¬ In c d k := fun k h1 h2 => by unfold In at h1 h2; omega

/-- A grown row of the range: what is not in the range stays. -/
theorem kept_grown {w w' : World} {a b : Nat} {row : Option Nat} (h : w.grownBy w' row) (hr : ∀ k, row = some k → In a b k) : Kept w w' (In a b) := ⟨h.size, fun i hi hn => h.block i hi (fun e => hn (hr i e.symm))⟩
end Go.Proofs.Ytepilofcionekaa
namespace Go.Proofs.Ytepilofcionekaa
open Go.RowKit Go.Proofs.YtepilofcionekaaW.PrintWords Go.Proofs.Ytepilofcionekaa.PMesh Msh
set_option linter.unusedVariables false

/-- How many numbers rows hold. -/
def tot : List (List Int) → Nat
  | [] => 0
  | t :: r => t.length + tot r
/-- Rows marked, from a on. -/
def marksT (a : Int) : List (List Int) → List (List Int)
  | [] => []
  | t :: r => marksA a t.length :: marksT (a + (t.length : Int)) r

theorem tot_append (x y : List (List Int)) : tot (x ++ y) = tot x + tot y := by
  induction x with
  | nil => simp [tot]
  | cons t r ih => simp [tot, ih]; omega
theorem marksT_append (x y : List (List Int)) : ∀ a, marksT a (x ++ y) = marksT a x ++ marksT (a + (tot x : Int)) y := by
  induction x with
  | nil => intro a; simp [tot, marksT]
  | cons t r ih =>
    intro a
    simp only [List.cons_append, marksT, tot, ih]
    congr 3
    omega
theorem marksT_len (x : List (List Int)) : ∀ a, (marksT a x).length = x.length := by
  induction x with
  | nil => intro a; rfl
  | cons t r ih => intro a; simp [marksT, ih]
theorem tot_le (T : List (List Int)) (hr : ∀ t ∈ T, t.length ≤ 1048576) : tot T ≤ T.length * 1048576 := by
  induction T with
  | nil => simp [tot]
  | cons t r ih =>
    have h1 := hr t List.mem_cons_self
    have h2 := ih (fun x hx => hr x (List.mem_cons_of_mem _ hx))
    simp only [tot, List.length_cons]
    omega
theorem tot_take (T : List (List Int)) (j : Nat) : tot (T.take j) ≤ tot T := by
  have := tot_append (T.take j) (T.drop j)
  rw [List.take_append_drop] at this
  omega

/-- The first j rows marked. -/
def partT (a : Int) (T : List (List Int)) (j : Nat) : List (List Int) := marksT a (T.take j) ++ T.drop j
theorem partT_zero (a : Int) (T : List (List Int)) : partT a T 0 = T := by simp [partT, marksT]
theorem partT_all (a : Int) (T : List (List Int)) : partT a T T.length = marksT a T := by simp [partT]
theorem partT_len (a : Int) (T : List (List Int)) (j : Nat) (h : j ≤ T.length) : (partT a T j).length = T.length := by simp [partT, marksT_len]; omega
theorem partT_get (a : Int) (T : List (List Int)) (j : Nat) (h : j < T.length) : (partT a T j).getD j [] = T[j] := by
  have hl : (marksT a (T.take j)).length = j := by rw [marksT_len, List.length_take]; omega
  unfold partT
  rw [List.getD_eq_getElem?_getD, List.getElem?_append_right (by omega), hl, Nat.sub_self, List.drop_eq_getElem_cons h]
  rfl
theorem partT_set (a : Int) (T : List (List Int)) (j : Nat) (h : j < T.length) : (partT a T j).set j (marksA (a + (tot (T.take j) : Int)) T[j].length) = partT a T (j + 1) := by
  have hl : (marksT a (T.take j)).length = j := by rw [marksT_len, List.length_take]; omega
  have e2 : T.drop j = T[j] :: T.drop (j + 1) := List.drop_eq_getElem_cons h
  unfold partT
  rw [List.take_succ_eq_append_getElem h, marksT_append, e2, List.set_append, if_neg (by omega), hl, Nat.sub_self, List.set_cons_zero, List.append_assoc]
  rfl
theorem tot_succ (T : List (List Int)) (j : Nat) (h : j < T.length) : tot (T.take (j + 1)) = tot (T.take j) + T[j].length := by
  rw [List.take_succ_eq_append_getElem h, tot_append]
  simp [tot]

set_option maxHeartbeats 1000000 in
set_option maxRecDepth 100000 in
theorem mark_rows (v : Value) (T : List (List Int)) (hT : T.length ≤ 1048576) (hr : ∀ t ∈ T, t.length ≤ 1048576) (a : Int) (ha : 0 ≤ a) (ha1 : a ≤ 17592186044416) (w : World) (base : Nat) (ok : Nat → Prop) (b0 : Nat) (w0 : World) (K : Below b0 w0 w) (hb0 : b0 ≤ base) (hbw : b0 ≤ w.heap.size)
    (h : Kd.S (Kd.slice 2 (Kd.int .i64)) 56 w base ok v T) :
    Calls Try.prog 64 #[v, .int .i64 a] w fun e w' => e = .returned (.int .i64 (a + (tot T : Int))) ∧ Kd.S (Kd.slice 2 (Kd.int .i64)) 56 w' base ok v (marksT a T) ∧ Kept w w' ok ∧ Below b0 w0 w' := by
  have htot := tot_le T hr
  have htot2 : T.length * 1048576 ≤ 1099511627776 := by omega
  by_cases h0 : T.length = 0
  · obtain rfl : T = [] := List.length_eq_zero_iff.1 h0
    obtain ⟨A, c, rfl⟩ := Kd.S_slice h
    have HS := Lib.hid h
    have HK := Lib.hid K
    clear h h0 hT hr K htot htot2
    show Calls Try.prog 64 #[.slice A 0 c, .int .i64 a] w _
    go_enter Try.func64, Try.ntmps64
    go_wp2_with fail
    go_loopw [1, 5] (fun k i wr => wr = w ∧ k = .int .i64 a ∧ i = .int .i64 0) (fun _ _ _ => 0)
    case atStart => exact ⟨rfl, rfl, rfl⟩
    case round =>
      obtain ⟨rfl, rfl, rfl⟩ := hrel
      go_wp2_with fail
      go_ret
      exact ⟨by simp [tot], HS.out, Kept.refl _ _, HK.out⟩
  · obtain ⟨g, c, rfl, hgb, hgl, _⟩ := Kd.S_form h (by omega)
    have HS := Lib.hid h
    have HK := Lib.hid K
    have HR := Lib.hid hr
    clear h K hr hgb hgl
    go_enter Try.func64, Try.ntmps64
    go_wp2_with fail
    go_loopw [1, 5] (fun k i wr => ∃ (j : Nat) (q : Int), j ≤ T.length ∧ k = .int .i64 q ∧ Hid (q = a + (tot (T.take j) : Int)) ∧ i = .int .i64 (j : Int) ∧ Hid (Kd.S (Kd.slice 2 (Kd.int .i64)) 56 wr base ok (.slice (some ⟨g, 0, none⟩) T.length c) (partT a T j)) ∧ Hid (Kept w wr ok) ∧ Hid (Below b0 w0 wr)) (fun _ i _ => T.length - (intOf i).toNat)
    case atStart => exact ⟨0, a, Nat.zero_le _, rfl, by exact Lib.hid (by simp [tot]), rfl, by rw [partT_zero]; exact HS, Lib.hid (Kept.refl _ _), HK⟩
    case round =>
      obtain ⟨j, q, hj, rfl, hq, rfl, hS, hKe, hB⟩ := hrel
      by_cases hlt : j < T.length
      · have b1 : (j : Int) < (T.length : Int) := by omega
        have b2 : (0 : Int) ≤ (j : Int) := by omega
        have b3 : (j : Int) < 1048576 := by omega
        obtain ⟨oki, cc, hcl, hM, hcc, hoki, hbk⟩ := Kd.S_borrow hS.out [] (j : Int) b2 (by omega)
        rw [Int.toNat_natCast, partT_get a T j hlt] at hM
        rw [Int.toNat_natCast] at hcc hbk
        obtain ⟨vi, rfl, hR⟩ := hM
        have hcell := hcc 0 _ rfl
        rw [show (Kd.slice 2 (Kd.int .i64)).sz = 1 from rfl, Nat.mul_one, Nat.add_zero, add_at, Nat.zero_add] at hcell
        obtain ⟨Ai, ci, rfl⟩ := Kd.R_slice hR
        have hlen := HR.out T[j] (List.getElem_mem hlt)
        have htk := tot_take T j
        have hq0 := hq.out
        have hqb : 0 ≤ q ∧ q ≤ 35184372088832 := by omega
        have hqs : q + (T[j].length : Int) = a + (tot (T.take (j + 1)) : Int) := by rw [tot_succ T j hlt]; omega
        have hstep : ∀ (w2 : World), w2.ownsRow base 2 1 (.slice Ai T[j].length ci) T[j].length (encs (Value.int .i64) (marksA q T[j].length)) → wr.grownBy w2 (Value.slice Ai T[j].length ci).ownBlock → Kd.S (Kd.slice 2 (Kd.int .i64)) 56 w2 base ok (.slice (some ⟨g, 0, none⟩) T.length c) (partT a T (j + 1)) ∧ Kept w w2 ok ∧ Below b0 w0 w2 := by
          intro w2 ho hg
          have hin : ∀ k, (Value.slice Ai T[j].length ci).ownBlock = some k → oki k := fun k hk => hR.1 k hk
          refine ⟨?_, Kept.of_grown hg hKe.out (fun k hk => .inl (hoki k (hin k hk)).1), Below.grown hB.out hg (Nat.le_trans hbw hKe.out.1) (fun k hk => Nat.le_trans hb0 (own_base (Kd.own_of_R hR) k hk))⟩
          have := hbk (x' := marksA q T[j].length) hg hin ⟨_, rfl, Kd.R_of_own (by rw [marksA_len]; exact ho) hin⟩
          rw [hq0, partT_set a T j hlt] at this
          exact this
        have HST := Lib.hid hstep
        have HRR := Lib.hid (Kd.own_of_R hR)
        have HQS := Lib.hid hqs
        have hl1 : T[j].length ≤ 1048576 := hlen
        clear hstep hR hcc hbk hq0 hqs hoki hcl hlen htk hq htot htot2 hT ha ha1
        obtain ⟨hq1, hq2⟩ := hqb
        generalize T[j] = t at *
        go_wp2_with (first | (go_at_call 31; refine (mark_ints _ t hl1 q hq1 (by omega) _ base HRR.out).mono ?_; rintro e w2 ⟨rfl, ho, hg⟩; have HN := Lib.hid (HST.out w2 ho hg); clear ho hg) | fail)
        go_roundw
        case rel => exact ⟨j + 1, q + (t.length : Int), hlt, rfl, HQS, by simp, Lib.hid HN.out.1, Lib.hid HN.out.2.1, Lib.hid HN.out.2.2⟩
        case measure => simp [intOf]; omega
      · obtain rfl : j = T.length := by omega
        have hfin := hS.out
        rw [partT_all] at hfin
        have hqf := hq.out
        rw [List.take_length] at hqf
        have HF := Lib.hid hfin
        have HQ := Lib.hid hqf
        clear hfin hqf hS hq
        go_wp2_with fail
        go_ret
        exact ⟨by rw [HQ.out]; rfl, HF.out, hKe.out, hB.out⟩

end Go.Proofs.Ytepilofcionekaa
namespace Go.Proofs.Ytepilofcionekaa.Msh
open Fl Go.RowKit Go.Proofs.YtepilofcionekaaW.PrintWords Go.Proofs.Ytepilofcionekaa.PMesh
set_option linter.unusedVariables false

/-- What is known of a mesh that comes in. -/
structure MeshOk (L : List S122) (T : List (List Int)) : Prop where
  lp : L.length ≤ 9223372036854775807
  lt : T.length ≤ 9223372036854775807
  lr : ∀ t ∈ T, t.length ≤ 9223372036854775807
  fl : ∀ x ∈ L, x.f0 < 4294967296 ∧ x.f1 < 4294967296 ∧ x.f2 < 4294967296

theorem map_ok {L : List S122} (h : ∀ x ∈ L, x.f0 < 4294967296 ∧ x.f1 < 4294967296 ∧ x.f2 < 4294967296) : ∀ x ∈ L.map toV, okV x := by
  intro x hx
  obtain ⟨y, hy, rfl⟩ := List.mem_map.1 hx
  exact h y hy

end Go.Proofs.Ytepilofcionekaa.Msh
namespace Go.Proofs.Ytepilofcionekaa
open Go.RowKit Go.Proofs.YtepilofcionekaaW.PrintWords Go.Proofs.Ytepilofcionekaa.PMesh Msh

end Go.Proofs.Ytepilofcionekaa
namespace Go.Proofs.Ytepilofcionekaa
open Go.RowKit Go.Proofs.YtepilofcionekaaW.PrintWords Go.Proofs.Ytepilofcionekaa.PMesh Msh
set_option linter.unusedVariables false

/-- A mesh of the call's own, its blocks from a up to b. -/
def OwnM (w : World) (a b : Nat) (vP vT : Value) (P : List S42) (T : List (List Int)) : Prop :=
  Kd.R k42 42 w a (In a b) vP P ∧ Kd.S (Kd.slice 2 (Kd.int .i64)) 56 w a (In a b) vT T
/-- A row of numbers of the call's own. -/
def OwnI (w : World) (a b : Nat) (v : Value) (l : List Int) : Prop := Kd.R (Kd.int .i64) 2 w a (In a b) v l
/-- A mesh that came in, as it can be read from w on. -/
def CameM (w : World) (A : Option Addr) (c : Nat) (L : List S122) (B : Option Addr) (e : Nat) (T : List (List Int)) : Prop :=
  Kd.C k122 w A L.length L ∧ L.length ≤ c ∧ Kd.C (Kd.slice 2 (Kd.int .i64)) w B T.length T ∧ T.length ≤ e

section
variable {w w' w0 : World} {a b c d b0 : Nat} {v vP vT : Value} {P : List S42} {T : List (List Int)} {l : List Int}
theorem OwnM.below (h : OwnM w a b vP vT P T) (hb : Below w.heap.size w w') : OwnM w' a b vP vT P T := ⟨Kd.R_below h.1 hb, Kd.S_below h.2 hb⟩
theorem OwnM.drawn (h : OwnM w a b vP vT P T) (hd : Drawn0 w w') : OwnM w' a b vP vT P T := h.below hd.below
theorem OwnM.kept (h : OwnM w a b vP vT P T) (hk : Kept w w' (In c d)) (ho : b ≤ c ∨ d ≤ a) : OwnM w' a b vP vT P T := ⟨Kd.R_kept h.1 hk (In_off ho), Kd.S_kept h.2 hk (In_off ho)⟩
theorem OwnI.below (h : OwnI w a b v l) (hb : Below w.heap.size w w') : OwnI w' a b v l := Kd.R_below h hb
theorem OwnI.drawn (h : OwnI w a b v l) (hd : Drawn0 w w') : OwnI w' a b v l := h.below hd.below
theorem OwnI.kept (h : OwnI w a b v l) (hk : Kept w w' (In c d)) (ho : b ≤ c ∨ d ≤ a) : OwnI w' a b v l := Kd.R_kept h hk (In_off ho)
theorem OwnM.C {A B : Option Addr} {n m e f : Nat} (h : OwnM w a b (.slice A n e) (.slice B m f) P T) : Kd.C k42 w A P.length P ∧ P.length ≤ e ∧ Kd.C (Kd.slice 2 (Kd.int .i64)) w B T.length T ∧ T.length ≤ f := by
  obtain ⟨h1, h2, h3⟩ := Kd.R_reads' h.1
  obtain ⟨h4, h5, h6⟩ := Kd.S_reads' h.2
  exact ⟨h3, by omega, h6, by omega⟩
theorem OwnI.C {A : Option Addr} {n e : Nat} (h : OwnI w a b (.slice A n e) l) : Kd.C (Kd.int .i64) w A l.length l ∧ l.length ≤ e := by
  obtain ⟨h1, h2, h3⟩ := Kd.R_reads' h
  exact ⟨h3, by omega⟩
theorem CameM.below {A B : Option Addr} {c e : Nat} {L : List S122} (h : CameM w A c L B e T) (hb : Below w.heap.size w w') : CameM w' A c L B e T := ⟨Kd.C_below h.1 hb, h.2.1, Kd.C_below h.2.2.1 hb, h.2.2.2⟩
theorem Drawn0.sized (h : Drawn0 w w') : w'.heap.size = w.heap.size := by obtain ⟨m, rfl⟩ := h; rfl
theorem below_then (h : Below b0 w0 w) (hb : Below w.heap.size w w') (hw : b0 ≤ w.heap.size) : Below b0 w0 w' := h.trans (hb.mono hw)
end

/-- A variable that holds a mesh: its block. -/
def BoxAt (W : World) (g : Nat) (t : TypeId) (u v : Value) : Prop := W.heap[g]? = some (.cells #[u, v] t (0, 0))
section
variable {W W' : World} {g c d : Nat} {t : TypeId} {u v : Value}
theorem BoxAt.below (h : BoxAt W g t u v) (hb : Below W.heap.size W W') : BoxAt W' g t u v := (hb.block g (blk_lt h)).trans h
theorem BoxAt.drawn (h : BoxAt W g t u v) (hd : Drawn0 W W') : BoxAt W' g t u v := h.below hd.below
theorem BoxAt.kept (h : BoxAt W g t u v) (hk : Kept W W' (In c d)) (ho : g < c ∨ d ≤ g) : BoxAt W' g t u v := blk_kept h hk (fun hi => by unfold In at hi; omega)
theorem BoxAt.new (W : World) (t : TypeId) (u v : Value) : BoxAt (W.alloc (.cells #[u, v] t)) W.heap.size t u v := heap_alloc_new W _
theorem BoxAt.c0 (h : BoxAt W g t u v) : W.cell? ⟨g, 0, none⟩ = some u := (blk_cell h 0).trans rfl
theorem BoxAt.c1 (h : BoxAt W g t u v) : W.cell? ⟨g, 1, none⟩ = some v := (blk_cell h 1).trans rfl
theorem BoxAt.lt (h : BoxAt W g t u v) : g < W.heap.size := blk_lt h
theorem keep4 {g1 g2 : Nat} {t1 t2 : TypeId} {u1 v1 u2 v2 : Value} {R : World → Prop} (hR : ∀ W W', R W → Below W.heap.size W W' → R W') (hb : Below W.heap.size W W')
    (h : W.cell? ⟨g1, 0, none⟩ = some u1 ∧ W.cell? ⟨g1, 1, none⟩ = some v1 ∧ W.cell? ⟨g2, 0, none⟩ = some u2 ∧ W.cell? ⟨g2, 1, none⟩ = some v2 ∧ BoxAt W g1 t1 u1 v1 ∧ BoxAt W g2 t2 u2 v2 ∧ R W) :
    W'.cell? ⟨g1, 0, none⟩ = some u1 ∧ W'.cell? ⟨g1, 1, none⟩ = some v1 ∧ W'.cell? ⟨g2, 0, none⟩ = some u2 ∧ W'.cell? ⟨g2, 1, none⟩ = some v2 ∧ BoxAt W' g1 t1 u1 v1 ∧ BoxAt W' g2 t2 u2 v2 ∧ R W' := by
  obtain ⟨_, _, _, _, b1, b2, r⟩ := h
  have c1 := b1.below hb
  have c2 := b2.below hb
  exact ⟨c1.c0, c1.c1, c2.c0, c2.c1, c1, c2, hR _ _ r hb⟩
theorem keep4d {g1 g2 : Nat} {t1 t2 : TypeId} {u1 v1 u2 v2 : Value} {R : World → Prop} (hR : ∀ W W', R W → Below W.heap.size W W' → R W')
    (h : W.cell? ⟨g1, 0, none⟩ = some u1 ∧ W.cell? ⟨g1, 1, none⟩ = some v1 ∧ W.cell? ⟨g2, 0, none⟩ = some u2 ∧ W.cell? ⟨g2, 1, none⟩ = some v2 ∧ BoxAt W g1 t1 u1 v1 ∧ BoxAt W g2 t2 u2 v2 ∧ R W) :
    W.drew.cell? ⟨g1, 0, none⟩ = some u1 ∧ W.drew.cell? ⟨g1, 1, none⟩ = some v1 ∧ W.drew.cell? ⟨g2, 0, none⟩ = some u2 ∧ W.drew.cell? ⟨g2, 1, none⟩ = some v2 ∧ BoxAt W.drew g1 t1 u1 v1 ∧ BoxAt W.drew g2 t2 u2 v2 ∧ R W.drew := keep4 hR (Below.drew (Below.refl _ _)) h
theorem rest4 {g1 g2 : Nat} {t1 t2 : TypeId} {u1 v1 u2 v2 : Value} {R : World → Prop}
    (h : W.cell? ⟨g1, 0, none⟩ = some u1 ∧ W.cell? ⟨g1, 1, none⟩ = some v1 ∧ W.cell? ⟨g2, 0, none⟩ = some u2 ∧ W.cell? ⟨g2, 1, none⟩ = some v2 ∧ BoxAt W g1 t1 u1 v1 ∧ BoxAt W g2 t2 u2 v2 ∧ R W) : R W := h.2.2.2.2.2.2
end

/-- Small meshes: what the laws' bound on sizes leaves. -/
def SmallM (L : List S122) (T : List (List Int)) : Prop := L.length ≤ 1048576 ∧ T.length ≤ 1048576 ∧ (∀ t ∈ T, t.length ≤ 1048576)

theorem sz_step (w W : World) (A : Option Addr) (c : Nat) (L : List S122) (B : Option Addr) (e : Nat) (T : List (List Int)) (h : CameM w A c L B e T) (ok : MeshOk L T) (a : Int) (ha : 0 ≤ a) (ha1 : a ≤ 1048576) :
    ∃ r : Int, (0 ≤ r → SmallM L T) ∧ r ≤ 1048576 ∧ ∀ W, Below w.heap.size w W → Calls Try.prog 24 #[.agg #[.slice A L.length c, .slice B T.length e], .int .i64 a] W fun e w' => e = .returned (.int .i64 r) ∧ Below W.heap.size W w' := by
  obtain ⟨r, hr, hr1, hs⟩ := szMesh_f L T ok.lp ok.lt ok.lr 1048578 (by omega) a ha ha1
  refine ⟨r, fun h0 => hs h0, hr1, fun W hb => ?_⟩
  have h' := h.below hb
  exact laws_szMesh.calls 1048578 A c L B e T a r W h'.1 h'.2.1 h'.2.2.1 h'.2.2.2 hr

theorem to_step (w : World) (A : Option Addr) (c : Nat) (L : List S122) (B : Option Addr) (e : Nat) (T : List (List Int)) (h : CameM w A c L B e T) (hs : SmallM L T) (P : List S42) (hP : P = L.map toV) :
    ∀ W, Below w.heap.size w W → Calls Try.prog 26 #[.agg #[.slice A L.length c, .slice B T.length e]] W fun E w' => ∃ A' c' B' e', E = .returned (.agg #[.slice A' P.length c', .slice B' T.length e']) ∧ OwnM w' W.heap.size w'.heap.size (.slice A' P.length c') (.slice B' T.length e') P T ∧ Below W.heap.size W w' ∧ Below w.heap.size w w' := by
  intro W hb
  have h' := h.below hb
  have hf := toMesh_f L T hs.1 hs.2.1 hs.2.2 2097156 (by omega)
  rw [← hP] at hf
  refine (laws_toMesh.calls 2097156 A c L B e T P T W h'.1 h'.2.1 h'.2.2.1 h'.2.2.2 hf).mono ?_
  rintro E w' ⟨v0, v1, rfl, hR, hS, hbw⟩
  obtain ⟨A', c', rfl⟩ := Kd.R_slice hR
  obtain ⟨B', e', rfl⟩ := Kd.S_slice hS
  exact ⟨A', c', B', e', rfl, ⟨R_in hR, S_in hS⟩, hbw, below_then hb hbw hb.size⟩

theorem eq_step (P P' : List S42) (T : List (List Int)) (hp : simP P P') (h1 : P.length ≤ 1048576) (h2 : T.length ≤ 1048576) (h3 : ∀ t ∈ T, t.length ≤ 1048576) (W : World) (A A' B B' : Option Addr) (n n' c c' m m' e e' a b a' b' : Nat)
    (x : OwnM W a b (.slice A P.length c) (.slice B T.length e) P T) (y : OwnM W a' b' (.slice A' P'.length c') (.slice B' T.length e') P' T) :
    Calls Try.prog 21 #[.agg #[.slice A P.length c, .slice B T.length e], .agg #[.slice A' P'.length c', .slice B' T.length e']] W fun E w' => E = .returned (.bool true) ∧ Below W.heap.size W w' :=
  laws_eqMesh.calls 2097156 A c P B e T A' c' P' B' e' T true W x.C.1 x.C.2.1 x.C.2.2.1 x.C.2.2.2 y.C.1 y.C.2.1 y.C.2.2.1 y.C.2.2.2 (eqMesh_f P P' T hp h1 h2 h3 _ (by omega))

theorem eqI_step (l : List Int) (h1 : l.length ≤ 1048576) (W : World) (A A' : Option Addr) (c c' a b a' b' : Nat) (x : OwnI W a b (.slice A l.length c) l) (y : OwnI W a' b' (.slice A' l.length c') l) :
    Calls Try.prog 30 #[.slice A l.length c, .slice A' l.length c'] W fun E w' => E = .returned (.bool true) ∧ Drawn0 W w' :=
  laws_eqInt64S.calls 1048578 A c l A' c' l true W x.C.1 x.C.2 y.C.1 y.C.2 (eqI_f l h1 _ (by omega))

theorem markI_step (l : List Int) (h1 : l.length ≤ 1048576) (q : Int) (hq : 0 ≤ q) (hq1 : q ≤ 1099511627776) (W : World) (A : Option Addr) (c a b : Nat) (x : OwnI W a b (.slice A l.length c) l) (b0 : Nat) (w0 : World) (K : Below b0 w0 W) (hb0 : b0 ≤ a) (hbw : b0 ≤ W.heap.size) :
    Calls Try.prog 31 #[.slice A l.length c, .int .i64 q] W fun E w' => E = .returned (.int .i64 (q + (l.length : Int))) ∧ OwnI w' a b (.slice A l.length c) (marksA q l.length) ∧ Kept W w' (In a b) ∧ Below b0 w0 w' := by
  refine (mark_ints _ l h1 q hq (by omega) W a (Kd.own_of_R x)).mono ?_
  rintro E w' ⟨rfl, ho, hg⟩
  exact ⟨rfl, Kd.R_of_own (by rw [marksA_len]; exact ho) (fun k hk => x.1 k hk), kept_grown hg (fun k hk => x.1 k hk), Below.grown K hg hbw (fun k hk => Nat.le_trans hb0 (x.1 k hk).1)⟩

theorem heldI_step (n : Nat) (h1 : n ≤ 1048576) (q : Int) (hq : 0 ≤ q) (hq1 : q ≤ 1099511627776) (W : World) (A : Option Addr) (c a b : Nat) (x : OwnI W a b (.slice A n c) (marksA q n)) :
    Calls Try.prog 32 #[.slice A n c, .int .i64 q] W fun E w' => E = .returned (.int .i64 (q + (n : Int))) ∧ Drawn0 W w' := by
  have hl := marksA_len q n
  have h := laws_heldInt64S.calls 1048577 A c (marksA q n) q (q + (n : Int)) W x.C.1 x.C.2 (held_fA q hq (by omega) n h1)
  rw [hl] at h
  exact h

theorem own_rebase {w : World} {base base' : Nat} {e : TypeId} {size n : Nat} {v : Value} {xs : List Value} (h : w.ownsRow base e size v n xs) (hb : ∀ k, v.ownBlock = some k → base' ≤ k) : w.ownsRow base' e size v n xs := by
  obtain ⟨h1, h2⟩ := h
  refine ⟨h1, ?_⟩
  rcases h2 with h2 | ⟨g, cap, cur, rfl, hg, r⟩
  · exact .inl h2
  · exact .inr ⟨g, cap, cur, rfl, hb g rfl, r⟩

/-- A vector of three marks. -/
def mkV (q : Int) : S42 := ⟨floatOfInt .f32 q, floatOfInt .f32 (q + 1), floatOfInt .f32 (q + 2)⟩
def marksV (q : Int) (n : Nat) : List S42 := (List.range n).map fun t : Nat => mkV (q + 3 * (t : Int))
theorem marksV_len (q : Int) (n : Nat) : (marksV q n).length = n := by simp [marksV]
theorem marksV_get (q : Int) (n i : Nat) (h : i < (marksV q n).length) : (marksV q n)[i] = mkV (q + 3 * (i : Int)) := by simp [marksV]
def partV (q : Int) (l : List S42) (i : Nat) : List S42 := marksV q i ++ l.drop i
theorem partV_len (q : Int) (l : List S42) (i : Nat) (h : i ≤ l.length) : (partV q l i).length = l.length := by simp [partV, marksV_len]; omega
theorem partV_all (q : Int) (l : List S42) : partV q l l.length = marksV q l.length := by simp [partV]
theorem partV_set (q : Int) (l : List S42) (i : Nat) (h : i < l.length) : (partV q l i).set i (mkV (q + 3 * (i : Int))) = partV q l (i + 1) := by
  have e1 : marksV q (i + 1) = marksV q i ++ [mkV (q + 3 * (i : Int))] := by simp [marksV, List.range_succ]
  have e2 : l.drop i = l[i] :: l.drop (i + 1) := List.drop_eq_getElem_cons h
  have hm : (marksV q i).length = i := marksV_len q i
  unfold partV
  rw [e1, e2, List.set_append, if_neg (by omega), hm, Nat.sub_self, List.set_cons_zero, List.append_assoc]
  rfl
theorem rd_set (Q : List S42) (i : Nat) (h : i < Q.length) (x : S42) : rd_T42 (Q.set i x) (i : Int) = x := by
  rw [rdV _ _ (by rw [List.length_set]; exact h), List.getElem_set_self]

theorem markV_loop (P : List S42) (q : Int) (h0 : 0 ≤ q) (hq : q ≤ 8796093022208) (hP : P.length ≤ 1048576) (d : Nat) : ∀ (k i : Nat), i ≤ P.length → P.length - i = d → d < k → laws_markVectorS.l0 k (partV q P i) (q + 3 * (i : Int)) (i : Int) = some (q + 3 * (P.length : Int), marksV q P.length) := by
  induction d with
  | zero =>
    intro k i hi hd hk
    obtain ⟨k, rfl⟩ : ∃ j, k = j + 1 := ⟨k - 1, by omega⟩
    have hl := partV_len q P i hi
    obtain rfl : i = P.length := by omega
    simp only [laws_markVectorS.l0]
    rw [if_neg (by omega), partV_all]
  | succ d ih =>
    intro k i hi hd hk
    obtain ⟨k, rfl⟩ : ∃ j, k = j + 1 := ⟨k - 1, by omega⟩
    have hl := partV_len q P i hi
    have hil : i < (partV q P i).length := by omega
    simp only [laws_markVectorS.l0]
    rw [if_pos (by omega), if_pos (by omega)]
    simp only [Option.bind_some]
    rw [Msh.wrap_fit (x := q + 3 * (i : Int) + 1) (by omega) (by omega), Msh.wrap_fit (x := q + 3 * (i : Int) + 1 + 1) (by omega) (by omega), Msh.wrap_fit (x := q + 3 * (i : Int) + 1 + 1 + 1) (by omega) (by omega), up i (by omega), Int.toNat_natCast]
    simp only [List.set_set, rd_set _ _ hil]
    have e := ih k (i + 1) (by omega) (by omega) (by omega)
    rw [← partV_set q P i (by omega)] at e
    rw [show q + 3 * (i : Int) + 1 + 1 + 1 = q + 3 * ((i + 1 : Nat) : Int) by omega, show q + 3 * (i : Int) + 1 + 1 = q + 3 * (i : Int) + 2 by omega]
    exact e

theorem markV_step (P : List S42) (h1 : P.length ≤ 1048576) (q : Int) (hq : 0 ≤ q) (hq1 : q ≤ 8796093022208) (W : World) (v : Value) (a b : Nat) (x : Kd.R k42 42 W a (In a b) v P) (w0 : World) (K : Below w0.heap.size w0 W) (hb0 : w0.heap.size ≤ a) :
    Calls Try.prog 63 #[v, .int .i64 q] W fun E w' => E = .returned (.int .i64 (q + 3 * (P.length : Int))) ∧ Kd.R k42 42 w' a (In a b) v (marksV q P.length) ∧ Kept W w' (fun k => some k = v.ownBlock) ∧ Below w0.heap.size w0 w' := by
  have hf := markV_loop P q hq hq1 h1 P.length 1048577 0 (by omega) (by omega) (by omega)
  rw [show q + 3 * ((0 : Nat) : Int) = q by omega, show ((0 : Nat) : Int) = 0 from rfl, show partV q P 0 = P by simp [partV, marksV]] at hf
  have hE : (k42 : Kd S42).E = [] := rfl
  refine (laws_markVectorS.calls 1048577 (fun k => some k = v.ownBlock) v P q (q + 3 * (P.length : Int)) (marksV q P.length) w0 W K (Kd.R_lower (Kd.R_tight hE x) hb0) hf).mono ?_
  rintro E w' ⟨rfl, hR, hB, hK⟩
  refine ⟨rfl, ?_, hK, hB⟩
  refine ⟨x.1, ?_⟩
  obtain ⟨_, inner, ho, hr⟩ := hR
  refine ⟨inner, own_rebase ho (fun k hk => (x.1 k hk).1), hr.imp_ (fun p cs hp => ?_)⟩
  obtain rfl := k42_openM hp
  exact k42_mkM _ _ _ p

set_option maxHeartbeats 1000000 in
theorem markM_step (P : List S42) (T : List (List Int)) (h1 : P.length ≤ 1048576) (h2 : T.length ≤ 1048576) (h3 : ∀ t ∈ T, t.length ≤ 1048576) (q : Int) (hq : 0 ≤ q) (hq1 : q ≤ 4398046511104) (W : World) (A B : Option Addr) (c e a b : Nat) (x : OwnM W a b (.slice A P.length c) (.slice B T.length e) P T) (w0 : World) (K : Below w0.heap.size w0 W) (hb0 : w0.heap.size ≤ a) (hbW : b ≤ W.heap.size) :
    Calls Try.prog 22 #[.agg #[.slice A P.length c, .slice B T.length e], .int .i64 q] W fun E w' => E = .returned (.int .i64 (q + 3 * (P.length : Int) + (tot T : Int))) ∧ OwnM w' a b (.slice A P.length c) (.slice B T.length e) (marksV q P.length) (marksT (q + 3 * (P.length : Int)) T) ∧ Kept W w' (In a b) ∧ Below w0.heap.size w0 w' := by
  obtain ⟨xP, xT⟩ := x
  have hxP : ∀ k, (Value.slice A P.length c).ownBlock = some k → In a b k := fun k hk => xP.1 k hk
  have xT2 : Kd.S (Kd.slice 2 (Kd.int .i64)) 56 W a (fun k => In a b k ∧ some k ≠ (Value.slice A P.length c).ownBlock) (.slice B T.length e) T := by
    exact Kd.S_apart' xT (Kd.R_typed xP) (by decide)
  have H0 := Lib.hid hb0
  have XP := Lib.hid (Kd.R_alloc xP (.cells #[.slice A P.length c, .slice B T.length e] 27))
  have XT := Lib.hid (Kd.S_alloc xT2 (.cells #[.slice A P.length c, .slice B T.length e] 27))
  have K1 := Lib.hid (below_alloc K (.cells #[.slice A P.length c, .slice B T.length e] 27))
  have H3 := Lib.hid h3
  have HQ2 : Hid (q + 3 * (P.length : Int) ≤ 17592186044416) := Lib.hid (by omega)
  have hstep : ∀ w1 : World, Kept (W.alloc (.cells #[.slice A P.length c, .slice B T.length e] 27)) w1 (fun k => some k = (Value.slice A P.length c).ownBlock) → w1.cell? ⟨W.heap.size, 1, none⟩ = some (.slice B T.length e) := fun w1 hk =>
    cell_kept ((blk_cell (heap_alloc_new W _) 1).trans rfl) hk (fun h => by have := hxP _ h.symm; unfold In at this; simp only at this; omega)
  have HST := Lib.hid hstep
  have hfin : ∀ w1 w2 : World, Kept (W.alloc (.cells #[.slice A P.length c, .slice B T.length e] 27)) w1 (fun k => some k = (Value.slice A P.length c).ownBlock) → Kept w1 w2 (fun k => In a b k ∧ some k ≠ (Value.slice A P.length c).ownBlock) → Kept W w2 (In a b) := fun w1 w2 k1 k2 =>
    (((Kept.refl W (In a b)).alloc _).then_ k1 (fun k hk => .inl (hxP k hk.symm))).then_ k2 (fun k hk => .inl hk.1)
  have HF := Lib.hid hfin
  have hbw := K.size
  clear xP xT xT2 K h3 hstep hbw hb0 hfin hxP hbW
  go_enter Try.func22, Try.ntmps22
  go_wp2_with (first | (go_at_call 63; refine (markV_step P h1 q hq (by omega) _ _ a b XP.out w0 K1.out H0.out).mono ?_; rintro E w1 ⟨rfl, hR, hK, hB⟩; have hc1 := HST.out w1 hK; have R1 := Lib.hid hR; have KK1 := Lib.hid hK; have B1 := Lib.hid hB; clear hR hK hB) | (go_at_call 64; refine (mark_rows _ T h2 H3.out _ (by omega) HQ2.out _ a _ _ w0 B1.out H0.out B1.out.size (Kd.S_kept XT.out KK1.out (fun k hk he => hk.2 he))).mono ?_; rintro E w2 ⟨rfl, hS, hK2, hB2⟩; have S2 := Lib.hid hS; have KK2 := Lib.hid hK2; have B2 := Lib.hid hB2; clear hS hK2 hB2) | fail)
  go_ret
  have hE : (k42 : Kd S42).E = [] := rfl
  refine ⟨rfl, ⟨?_, Kd.S_mono S2.out (fun k hk => hk.1)⟩, HF.out _ _ KK1.out KK2.out, B2.out⟩
  exact Kd.R_mono (Kd.R_kept (Kd.R_tight2 hE R1.out) KK2.out (fun k hk hn => hn.2 hk.1)) (fun k hk => hk.2)

end Go.Proofs.Ytepilofcionekaa
namespace Go.Proofs.Ytepilofcionekaa.Pie
set_option linter.unusedVariables false

/-- Whether two places hang together by some pairs. -/
inductive Conn (E : List (Nat × Nat)) : Nat → Nat → Prop
  | refl (a : Nat) : Conn E a a
  | pair {a b : Nat} : (a, b) ∈ E → Conn E a b
  | symm {a b : Nat} : Conn E a b → Conn E b a
  | trans {a b c : Nat} : Conn E a b → Conn E b c → Conn E a c

theorem Conn.mono {E F : List (Nat × Nat)} (h : ∀ p ∈ E, Conn F p.1 p.2) {a b : Nat} (hc : Conn E a b) : Conn F a b := by
  induction hc with
  | refl a => exact .refl a
  | pair hp => exact h _ hp
  | symm _ ih => exact .symm ih
  | trans _ _ i1 i2 => exact .trans i1 i2

theorem Conn.nil {a b : Nat} (hc : Conn [] a b) : a = b := by
  induction hc with
  | refl a => rfl
  | pair hp => exact absurd hp (by simp)
  | symm _ ih => exact ih.symm
  | trans _ _ i1 i2 => exact i1.trans i2

/-- r gives each place the least place of its piece. -/
structure Lab (E : List (Nat × Nat)) (r : Nat → Nat) : Prop where
  le : ∀ i, r i ≤ i
  idem : ∀ i, r (r i) = r i
  conn : ∀ i, Conn E (r i) i
  same : ∀ i j, Conn E i j → r i = r j

theorem Lab.unique {E F : List (Nat × Nat)} {r s : Nat → Nat} (h : Lab E r) (g : Lab F s) (h1 : ∀ p ∈ E, Conn F p.1 p.2) (h2 : ∀ p ∈ F, Conn E p.1 p.2) : r = s := by
  funext i
  have a1 : s (r i) = s i := g.same _ _ ((h.conn i).mono h1)
  have a2 : r (s i) = r i := h.same _ _ ((g.conn i).mono h2)
  have b1 := g.le (r i)
  have b2 := h.le (s i)
  omega

theorem Lab.start : Lab [] (fun i => i) := ⟨fun _ => Nat.le_refl _, fun _ => rfl, fun i => .refl i, fun _ _ h => h.nil⟩

/-- Two pieces become one. -/
def mrg (r : Nat → Nat) (a b : Nat) (i : Nat) : Nat := if r i = max (r a) (r b) then min (r a) (r b) else r i

theorem Lab.step {E : List (Nat × Nat)} {r : Nat → Nat} (h : Lab E r) (a b : Nat) : Lab (E ++ [(a, b)]) (mrg r a b) := by
  have up : ∀ {x y}, Conn E x y → Conn (E ++ [(a, b)]) x y := fun hc => hc.mono (fun p hp => .pair (by simp [hp]))
  have hab : Conn (E ++ [(a, b)]) a b := .pair (by simp)
  have ia := h.idem a
  have ib := h.idem b
  refine ⟨fun i => ?_, fun i => ?_, fun i => ?_, fun i j hc => ?_⟩
  · have := h.le i
    unfold mrg
    split <;> omega
  · unfold mrg
    by_cases hi : r i = max (r a) (r b)
    · rw [if_pos hi]
      have hm : r (min (r a) (r b)) = min (r a) (r b) := by
        rcases Nat.le_total (r a) (r b) with h' | h'
        · rw [Nat.min_eq_left h']; exact ia
        · rw [Nat.min_eq_right h']; exact ib
      split
      · rfl
      · exact hm
    · rw [if_neg hi, h.idem i, if_neg hi]
  · unfold mrg
    by_cases hi : r i = max (r a) (r b)
    · rw [if_pos hi]
      have ci := up (h.conn i)
      rw [hi] at ci
      have ca := up (h.conn a)
      have cb := up (h.conn b)
      have cc : Conn (E ++ [(a, b)]) (r a) (r b) := .trans ca (.trans hab (.symm cb))
      rcases Nat.le_total (r a) (r b) with h' | h'
      · rw [Nat.max_eq_right h'] at ci; rw [Nat.min_eq_left h']; exact .trans cc ci
      · rw [Nat.max_eq_left h'] at ci; rw [Nat.min_eq_right h']; exact .trans (.symm cc) ci
    · rw [if_neg hi]; exact up (h.conn i)
  · induction hc with
    | refl a => rfl
    | @pair x y hp =>
      rcases List.mem_append.1 hp with hp | hp
      · unfold mrg; rw [h.same _ _ (.pair hp)]
      · simp at hp
        obtain ⟨rfl, rfl⟩ := hp
        unfold mrg
        rcases Nat.le_total (r x) (r y) with h' | h'
        · rw [Nat.max_eq_right h', Nat.min_eq_left h']
          split <;> simp_all
        · rw [Nat.max_eq_left h', Nat.min_eq_right h']
          split <;> simp_all
    | symm _ ih => exact ih.symm
    | trans _ _ i1 i2 => exact i1.trans i2

/-- A piece's least place stays as it is where two pieces are one. -/
theorem Lab.same_pair {E : List (Nat × Nat)} {r : Nat → Nat} (h : Lab E r) {a b : Nat} (he : r a = r b) : mrg r a b = r := by
  funext i
  unfold mrg
  rw [he, Nat.max_self, Nat.min_self]
  split
  · rename_i h'; exact h'.symm
  · rfl

/-! ### paths -/
/-- No place leads to a greater one. -/
def Down (L : List Nat) : Prop := ∀ k, L.getD k k ≤ k

/-- The end of the path from k. -/
def root (L : List Nat) (k : Nat) : Nat := if h : L.getD k k < k then root L (L.getD k k) else k
termination_by k

theorem root_end {L : List Nat} (hd : Down L) {k : Nat} (h : L.getD k k = k) : root L k = k := by rw [root, dif_neg (by omega)]
theorem root_on {L : List Nat} {k : Nat} (h : L.getD k k < k) : root L k = root L (L.getD k k) := by rw [root, dif_pos h]

theorem root_fix {L : List Nat} (hd : Down L) : ∀ k, L.getD (root L k) (root L k) = root L k := by
  intro k
  induction k using Nat.strongRecOn with
  | _ k ih =>
    by_cases h : L.getD k k < k
    · rw [root_on h]; exact ih _ h
    · have := hd k
      have he : L.getD k k = k := by omega
      rw [root_end hd he]; exact he

theorem root_le (L : List Nat) : ∀ k, root L k ≤ k := by
  intro k
  induction k using Nat.strongRecOn with
  | _ k ih =>
    by_cases h : L.getD k k < k
    · rw [root_on h]; have := ih _ h; omega
    · rw [root, dif_neg h]; exact Nat.le_refl _

theorem getD_set (L : List Nat) (i j v d : Nat) (hi : i < L.length) : (L.set i v).getD j d = if i = j then v else L.getD j d := by
  simp only [List.getD_eq_getElem?_getD]
  by_cases h : i = j
  · subst h; simp [hi]
  · simp [h]

/-- A place that leads nowhere is led on to a smaller one that leads nowhere. -/
theorem root_set {L : List Nat} (hd : Down L) {M m : Nat} (hM : L.getD M M = M) (hm : L.getD m m = m) (hl : M < L.length) (hle : m ≤ M) : Down (L.set M m) ∧ ∀ i, root (L.set M m) i = if root L i = M then m else root L i := by
  have hd' : Down (L.set M m) := by
    intro k
    rw [getD_set _ _ _ _ _ hl]
    split
    · omega
    · exact hd k
  refine ⟨hd', fun i => ?_⟩
  induction i using Nat.strongRecOn with
  | _ i ih =>
    by_cases hi : i = M
    · subst hi
      rw [root_end hd hM, if_pos rfl]
      by_cases hmi : m = i
      · subst hmi
        exact root_end hd' (by rw [getD_set _ _ _ _ _ hl, if_pos rfl])
      · have e : (L.set i m).getD i i = m := by rw [getD_set _ _ _ _ _ hl, if_pos rfl]
        rw [root_on (by rw [e]; omega), e]
        exact root_end hd' (by rw [getD_set _ _ _ _ _ hl, if_neg (fun h => hmi h.symm)]; exact hm)
    · have e : (L.set M m).getD i i = L.getD i i := by rw [getD_set _ _ _ _ _ hl, if_neg (fun h => hi h.symm)]
      by_cases h : L.getD i i < i
      · rw [root_on (by rw [e]; exact h), e, root_on h]
        exact ih _ h
      · have := hd i
        have he : L.getD i i = i := by omega
        rw [root_end hd' (by rw [e]; exact he), root_end hd he, if_neg hi]

theorem root_mrg {L : List Nat} (hd : Down L) {a b : Nat} (ha : a < L.length) (hb : b < L.length) : Down (L.set (max (root L a) (root L b)) (min (root L a) (root L b))) ∧ root (L.set (max (root L a) (root L b)) (min (root L a) (root L b))) = mrg (root L) a b := by
  have fa := root_fix hd a
  have fb := root_fix hd b
  have la := root_le L a
  have lb := root_le L b
  have key : L.getD (max (root L a) (root L b)) (max (root L a) (root L b)) = max (root L a) (root L b) ∧ L.getD (min (root L a) (root L b)) (min (root L a) (root L b)) = min (root L a) (root L b) := by
    rcases Nat.le_total (root L a) (root L b) with h' | h'
    · rw [Nat.max_eq_right h', Nat.min_eq_left h']; exact ⟨fb, fa⟩
    · rw [Nat.max_eq_left h', Nat.min_eq_right h']; exact ⟨fa, fb⟩
  obtain ⟨h1, h2⟩ := root_set hd key.1 key.2 (by omega) (by omega)
  exact ⟨h1, funext h2⟩

theorem down_range (n : Nat) : Down (List.range n) := by
  intro k
  rw [List.getD_eq_getElem?_getD]
  by_cases h : k < n
  · rw [List.getElem?_range h]; simp
  · rw [List.getElem?_eq_none (by simp; omega)]; simp

theorem root_range (n : Nat) : root (List.range n) = fun i => i := by
  funext k
  refine root_end (down_range n) ?_
  rw [List.getD_eq_getElem?_getD]
  by_cases h : k < n
  · rw [List.getElem?_range h]; simp
  · rw [List.getElem?_eq_none (by simp; omega)]; simp

/-! ### the numbers of the pieces -/
/-- The numbers of the pieces of the first places, and how many pieces they have. -/
def numL (r : Nat → Nat) : Nat → List Int × Nat
  | 0 => ([], 0)
  | i + 1 => if r i = i then ((numL r i).1 ++ [((numL r i).2 : Int)], (numL r i).2 + 1) else ((numL r i).1 ++ [(numL r i).1.getD (r i) 0], (numL r i).2)

theorem numL_len (r : Nat → Nat) : ∀ i, (numL r i).1.length = i
  | 0 => rfl
  | i + 1 => by unfold numL; split <;> simp [numL_len r i]
theorem numL_le (r : Nat → Nat) : ∀ i, (numL r i).2 ≤ i
  | 0 => Nat.le_refl _
  | i + 1 => by have := numL_le r i; unfold numL; split <;> simp <;> omega
theorem numL_congr {r s : Nat → Nat} : ∀ n, (∀ i, i < n → r i = s i) → numL r n = numL s n
  | 0, _ => rfl
  | n + 1, h => by unfold numL; rw [numL_congr n (fun i hi => h i (by omega)), h n (by omega)]
end Go.Proofs.Ytepilofcionekaa.Pie
namespace Go.Proofs.Ytepilofcionekaa
open Fl Go.RowKit Go.Proofs.YtepilofcionekaaW.PrintWords Go.Proofs.Ytepilofcionekaa.PMesh Msh
set_option linter.unusedVariables false

/-- A mesh that the reference has made: it is read alone. -/
def RefM (w : World) (a b : Nat) (vP vT : Value) (P : List S42) (T : List (List Int)) : Prop :=
  Kd.R k42 42 w a (In a b) vP P ∧ Kd.N (Kd.slice 2 (Kd.int .i64)) 56 w a (In a b) vT T
section
variable {w w' : World} {a b c d : Nat} {vP vT : Value} {P : List S42} {T : List (List Int)}
theorem RefM.below (h : RefM w a b vP vT P T) (hb : Below w.heap.size w w') : RefM w' a b vP vT P T := ⟨Kd.R_below h.1 hb, Kd.N_below h.2 hb⟩
theorem RefM.kept (h : RefM w a b vP vT P T) (hk : Kept w w' (In c d)) (ho : b ≤ c ∨ d ≤ a) : RefM w' a b vP vT P T := ⟨Kd.R_kept h.1 hk (In_off ho), Kd.N_kept h.2 hk (In_off ho)⟩
theorem RefM.C {A B : Option Addr} {n m e f : Nat} (h : RefM w a b (.slice A n e) (.slice B m f) P T) : Kd.C k42 w A P.length P ∧ P.length ≤ e ∧ Kd.C (Kd.slice 2 (Kd.int .i64)) w B T.length T ∧ T.length ≤ f := by
  obtain ⟨h1, h2, h3⟩ := Kd.R_reads' h.1
  obtain ⟨h4, h5, h6⟩ := Kd.N_reads' h.2
  exact ⟨h3, by omega, h6, by omega⟩
theorem N_in {α : Type} {d : Kd α} {e base : Nat} {w : World} {v : Value} {xs : List α} {ok : Nat → Prop} (h : Kd.N d e w base ok v xs) (hok : ∀ k, ok k → base ≤ k) : Kd.N d e w base (In base w.heap.size) v xs := Kd.N_mono (Kd.N_bound h) (fun k hk => ⟨hok k hk.1, hk.2⟩)
end
/-- What the reference's function with a mesh and a bool leaves. -/
def AnsR (w : World) (P : List S42) (T : List (List Int)) (b : Bool) (E : Ending) (w' : World) : Prop := ∃ A c B e, E = .returned (.tuple #[.agg #[.slice A P.length c, .slice B T.length e], .bool b]) ∧ RefM w' w.heap.size w'.heap.size (.slice A P.length c) (.slice B T.length e) P T ∧ Below w.heap.size w w'

/-- What a function with a mesh and a bool leaves. -/
def AnsM (w : World) (P : List S42) (T : List (List Int)) (b : Bool) (E : Ending) (w' : World) : Prop := ∃ A c B e, E = .returned (.tuple #[.agg #[.slice A P.length c, .slice B T.length e], .bool b]) ∧ OwnM w' w.heap.size w'.heap.size (.slice A P.length c) (.slice B T.length e) P T ∧ Below w.heap.size w w'

theorem eqR_step (P P' : List S42) (T : List (List Int)) (hp : simP P P') (h1 : P.length ≤ 1048576) (h2 : T.length ≤ 1048576) (h3 : ∀ t ∈ T, t.length ≤ 1048576) (W : World) (A A' B B' : Option Addr) (c c' e e' a b a' b' : Nat)
    (x : OwnM W a b (.slice A P.length c) (.slice B T.length e) P T) (y : RefM W a' b' (.slice A' P'.length c') (.slice B' T.length e') P' T) :
    Calls Try.prog 21 #[.agg #[.slice A P.length c, .slice B T.length e], .agg #[.slice A' P'.length c', .slice B' T.length e']] W fun E w' => E = .returned (.bool true) ∧ Below W.heap.size W w' :=
  laws_eqMesh.calls 2097156 A c P B e T A' c' P' B' e' T true W x.C.1 x.C.2.1 x.C.2.2.1 x.C.2.2.2 y.C.1 y.C.2.1 y.C.2.2.1 y.C.2.2.2 (eqMesh_f P P' T hp h1 h2 h3 _ (by omega))

end Go.Proofs.Ytepilofcionekaa
namespace Go.Proofs.Ytepilofcionekaa
open Fl Go.RowKit Go.Proofs.YtepilofcionekaaW.PrintWords Go.Proofs.YtepilofcionekaaW.PrintLast Go.Proofs.YtepilofcionekaaW.PrintMore Go.Proofs.Ytepilofcionekaa.PMesh Msh
set_option linter.unusedVariables false

theorem copy_loop (Q : List S42) (T : List (List Int)) (hT : T.length ≤ 1048576) (hr : ∀ t ∈ T, t.length ≤ 1048576) (d : Nat) : ∀ (k i : Nat), i ≤ T.length → T.length - i = d → d < k → impl_copyMesh.l0 k T (T.length : Int) (i : Int) Q (T.take i) = some (Q, T) := by
  induction d with
  | zero =>
    intro k i hi hd hk
    obtain ⟨k, rfl⟩ : ∃ j, k = j + 1 := ⟨k - 1, by omega⟩
    obtain rfl : i = T.length := by omega
    simp only [impl_copyMesh.l0]
    rw [if_neg (by omega), List.take_length]
  | succ d ih =>
    intro k i hi hd hk
    obtain ⟨k, rfl⟩ : ∃ j, k = j + 1 := ⟨k - 1, by omega⟩
    have hil : i < T.length := by omega
    have h3 := hr T[i] (List.getElem_mem hil)
    have e := ih k (i + 1) (by omega) (by omega) (by omega)
    rw [List.take_succ_eq_append_getElem hil] at e
    simp only [impl_copyMesh.l0, Option.bind_some, List.nil_append, List.length_nil]
    rw [if_pos (by omega), if_pos (by omega), if_pos (by omega), rdL T i hil, if_pos (by omega), if_pos (by rw [List.length_take]; omega), up i (by omega)]
    exact e
theorem copy_f (Q : List S42) (T : List (List Int)) (hQ : Q.length ≤ 1048576) (hT : T.length ≤ 1048576) (hr : ∀ t ∈ T, t.length ≤ 1048576) : impl_copyMesh.f 1048578 Q T = some (Q, T) := by
  unfold impl_copyMesh.f
  simp only [Option.bind_some, List.nil_append, List.length_nil]
  rw [if_pos (by omega)]
  exact copy_loop Q T hT hr T.length 1048578 0 (by omega) (by omega) (by omega)

theorem valid_rows {n : Nat} {T : List (List Int)} (hv : validB n T = true) : n ≤ 64 ∧ T.length ≤ 128 ∧ ∀ t ∈ T, t.length = 3 := by
  simp only [validB, Bool.and_eq_true, decide_eq_true_eq] at hv
  exact ⟨hv.1.1, hv.1.2, fun t ht => triB_len (List.all_eq_true.1 hv.2 t ht)⟩

theorem kept_two {w : World} {g : Nat} (u v : Value) : Kept w ((w.setCell ⟨g, 0, none⟩ u).setCell ⟨g, 1, none⟩ v) (fun k => k = g) := by
  have h1 : Kept w (w.setCell ⟨g, 0, none⟩ u) (fun k => k = g) := Kept.setCell (p := ⟨g, 0, none⟩) (Kept.refl w (fun k => k = g)) (Or.inl rfl) u
  exact Kept.setCell (p := ⟨g, 1, none⟩) h1 (Or.inl rfl) v

end Go.Proofs.Ytepilofcionekaa
namespace Go.Proofs.Ytepilofcionekaa
open Fl Go.RowKit Go.Proofs.YtepilofcionekaaW.PrintWords Go.Proofs.YtepilofcionekaaW.PrintLast Go.Proofs.YtepilofcionekaaW.PrintMore Go.Proofs.Ytepilofcionekaa.PMesh Msh
set_option linter.unusedVariables false

theorem oldc {w W : World} {a : Addr} {v : Value} (hb : Below w.heap.size w W) (h : w.cell? a = some v) : W.cell? a = some v := (hb.cell (World.block_lt_of_cell? _ _ h)).trans h

/-- The mesh's value if it is valid, else an empty mesh's. -/
def giveV (b : Bool) (u v : Value) : Value := if b = true then .agg #[u, v] else .agg #[.slice none 0 0, .slice none 0 0]

set_option maxHeartbeats 1000000 in
theorem impl_validMesh (A : Option Addr) (c : Nat) (Q : List S42) (B : Option Addr) (e : Nat) (T : List (List Int)) (w : World) (hQ : Kd.C k42 w A Q.length Q) (hq : Q.length ≤ c) (hT : Kd.C (Kd.slice 2 (Kd.int .i64)) w B T.length T) (hqt : T.length ≤ e) :
    Calls Try.prog 50 #[.agg #[.slice A Q.length c, .slice B T.length e]] w fun E w' => E = .returned (.tuple #[giveV (validB Q.length T) (.slice A Q.length c) (.slice B T.length e), .bool (validB Q.length T)]) ∧ Below w.heap.size w w' := by
  have hb0 := below_alloc (below_alloc (Below.refl w.heap.size w) (.cells #[.slice A Q.length c, .slice B T.length e] 27)) (.cells #[.slice none 0 0, .slice none 0 0] 27)
  have hbx := (BoxAt.new w 27 (.slice A Q.length c) (.slice B T.length e)).below (below_alloc (Below.refl _ _) (.cells #[.slice none 0 0, .slice none 0 0] 27))
  have hms : (w.alloc (.cells #[.slice A Q.length c, .slice B T.length e] 27)).heap.size = w.heap.size + 1 := by simp
  have hf0 := BoxAt.new (w.alloc (.cells #[.slice A Q.length c, .slice B T.length e] 27)) 27 (.slice none 0 0) (.slice none 0 0)
  rw [hms] at hf0
  have HX0 := Lib.hid hbx
  have HB0 := Lib.hid hb0
  have F0 := Lib.hid hf0
  have hc0 := hbx.c0
  have hc1 := hbx.c1
  have HV := Lib.hid (fun (W : World) (h : Below w.heap.size w W) => impl_ValidMesh.calls 2097156 A c Q B e T _ W (Kd.C_below hQ h) hq (Kd.C_below hT h) hqt (valid_f Q T _ (by omega)))
  generalize validB Q.length T = b at *
  clear hb0 hbx hf0 hms hQ hT hq hqt
  go_enter Try.func50, Try.ntmps50
  cases b
  · go_wp2_with (first
      | (go_at_call 43; refine (HV.out _ HB0.out).mono ?_; rintro E w1 ⟨rfl, hb⟩; have B1 := Lib.hid (below_then HB0.out hb HB0.out.size); have hf1 := F0.out.below hb; have f0 := hf1.c0; have f1 := hf1.c1; have z0 := blk_frozen hf1 0; have z1 := blk_frozen hf1 1; clear hb hc0 hc1)
      | fail)
    ((try simp only [Exit.inBlock, Exit.then]); refine bodyPost_ret (by simp [results, Try.results50, go_sem, f0, f1, setCell_same_of, World.cell?_setCell_other]; try rfl) rfl ?_)
    exact ⟨rfl, below_set (below_set B1.out (Nat.le_succ _)) (Nat.le_succ _)⟩
  · go_wp2_with (first
      | (go_at_call 43; refine (HV.out _ HB0.out).mono ?_; rintro E w1 ⟨rfl, hb⟩; have B1 := Lib.hid (below_then HB0.out hb HB0.out.size); have hx1 := HX0.out.below hb; have hd0 := hx1.c0; have hd1 := hx1.c1; have hf1 := F0.out.below hb; have f0 := hf1.c0; have f1 := hf1.c1; have z0 := blk_frozen hf1 0; have z1 := blk_frozen hf1 1; clear hb hc0 hc1)
      | fail)
    ((try simp only [Exit.inBlock, Exit.then]); refine bodyPost_ret (by simp [results, Try.results50, go_sem, f0, f1, setCell_same_of, World.cell?_setCell_other]; try rfl) rfl ?_)
    exact ⟨rfl, below_set (below_set B1.out (Nat.le_succ _)) (Nat.le_succ _)⟩

set_option maxHeartbeats 1000000 in
set_option maxRecDepth 100000 in
theorem spec_l02Is_reads (g : Nat) (A : Option Addr) (c : Nat) (Q : List S42) (B : Option Addr) (e : Nat) (T : List (List Int)) (w : World) (hg : BoxAt w g 27 (.slice A Q.length c) (.slice B T.length e)) (hT : Kd.C (Kd.slice 2 (Kd.int .i64)) w B T.length T) (hqt : T.length ≤ e) :
    Calls Try.prog 69 #[.pointer (some ⟨g, 0, none⟩)] w fun E w' => E = .returned (.bool (validB Q.length T)) ∧ Below w.heap.size w w' := by
  have hc0 := hg.c0
  have hc1 := hg.c1
  have hvd : validB Q.length T = (decide (Q.length ≤ 64) && decide (T.length ≤ 128) && T.all (triB Q.length)) := rfl
  by_cases hn : Q.length ≤ 64
  · by_cases ht : T.length ≤ 128
    · have e1 : ¬ ((64 : Int) < (Q.length : Int)) := by omega
      have e2 : ¬ ((128 : Int) < (T.length : Int)) := by omega
      rw [hvd, decide_eq_true hn, decide_eq_true ht, Bool.true_and, Bool.true_and]
      clear hvd
      have HG := Lib.hid hg
      have HC := Lib.hid hT
      clear hg hT
      go_enter Try.func69, Try.ntmps69
      go_wp2_with fail
      clear hc0 hc1
      go_loopw [3] (fun k wr => ∃ (i : Nat), i ≤ T.length ∧ k = .int .i64 (i : Int) ∧ Hid (Below w.heap.size w wr) ∧ Hid ((T.drop i).all (triB Q.length) = T.all (triB Q.length))) (fun k _ => T.length - (intOf k).toNat)
      case atStart => exact ⟨0, Nat.zero_le _, rfl, Lib.hid (Below.refl _ _), Lib.hid rfl⟩
      case round =>
        obtain ⟨i, hi, rfl, HB, HA⟩ := hrel
        have hg' := HG.out.below HB.out
        have hc0 := hg'.c0
        have hc1 := hg'.c1
        clear hg'
        by_cases hlt : i < T.length
        · have b1 : (i : Int) < (T.length : Int) := by omega
          have b2 : (0 : Int) ≤ (i : Int) := by omega
          have b3 : (i : Int) < 9223372036854775807 := by omega
          obtain ⟨ba, C, cc, rfl, tc, hcc, hC⟩ := at_L3 (Kd.C_below HC.out HB.out) (i : Int) (by omega) (by omega)
          rw [rdL T i hlt] at tc hcc hC
          rw [Int.toNat_natCast] at tc
          have hd : T.drop i = T[i] :: T.drop (i + 1) := List.drop_eq_getElem_cons hlt
          have HT3 := Lib.hid (fun (W : World) (h : Below wr.heap.size wr W) => spec_l02Triangle.calls 2 C cc T[i] (Q.length : Int) (triB Q.length T[i]) W (Kd.C_below hC h) hcc (triangle_f Q.length hn T[i] 2 (by omega)))
          have ha := HA.out
          rw [hd, List.all_cons] at ha
          have HA2 := Lib.hid ha
          clear hd ha HA hC hcc
          generalize T[i] = t at *
          have HK := Lib.hid (fun (W : World) (h : Below wr.heap.size wr W) => (⟨oldc h hc0, oldc h hc1, oldc h tc, h⟩ : W.cell? ⟨g, 0, none⟩ = some (.slice A Q.length c) ∧ W.cell? ⟨g, 1, none⟩ = some (.slice (some ba) T.length e) ∧ W.cell? (ba.add i) = some (.slice C t.length cc) ∧ Below wr.heap.size wr W))
          have S1 := HK.out wr (Below.refl _ _)
          go_wp2_with fail
          clear hc0 hc1 tc
          go_region_held3 (fun W => W.cell? ⟨g, 0, none⟩ = some (.slice A Q.length c) ∧ W.cell? ⟨g, 1, none⟩ = some (.slice (some ba) T.length e) ∧ W.cell? (ba.add i) = some (.slice C t.length cc) ∧ Below wr.heap.size wr W)
            (first | with_reducible assumption | (with_reducible exact HK.out _ (Below.drew (And.right (And.right (And.right (by with_reducible assumption)))))) | (with_reducible exact HK.out _ (below_then (And.right (And.right (And.right (by with_reducible assumption)))) (Drawn0.below (by with_reducible assumption)) (Below.size (And.right (And.right (And.right (by with_reducible assumption))))))))
            (first | (go_at_call 102; (with_reducible refine (HT3.out _ (And.right (And.right (And.right (by with_reducible assumption))))).mono ?_); rintro E w2 ⟨rfl, hd2⟩))
          rename_i hH
          have hbw := hH.2.2.2
          have HB2 := Lib.hid (below_then HB.out hbw HB.out.size)
          clear hH hbw S1 HK HT3
          clear hd2 e1 e2
          generalize triB Q.length t = q at *
          clear HG HC b1 b2 b3
          (try simp only [Exit.then])
          refine ‹∀ (a : Act) (w : World), Code.wp _ (Code.cond _ _ _) _ a w → _› _ _ ?_
          cases q
          · go_wp2_with fail
            go_ret
            exact ⟨by rw [← HA2.out]; rfl, HB2.out⟩
          · go_wp2_with fail
            exact ⟨⟨i + 1, hlt, by simp, HB2, Lib.hid (by rw [← HA2.out, Bool.true_and])⟩, by simp [intOf]; omega⟩
        · obtain rfl : i = T.length := by omega
          have hh := HA.out
          rw [List.drop_length] at hh
          go_wp2_with fail
          go_ret
          exact ⟨by rw [← hh]; rfl, HB.out⟩
    · have e1 : ¬ ((64 : Int) < (Q.length : Int)) := by omega
      have e2 : ((128 : Int) < (T.length : Int)) := by omega
      rw [hvd, decide_eq_false ht, Bool.and_false, Bool.false_and]
      go_enter Try.func69, Try.ntmps69
      go_wp2_with fail
      go_ret
      exact ⟨rfl, Below.refl _ _⟩
  · have e1 : ((64 : Int) < (Q.length : Int)) := by omega
    rw [hvd, decide_eq_false hn, Bool.false_and, Bool.false_and]
    go_enter Try.func69, Try.ntmps69
    go_wp2_with fail
    go_ret
    exact ⟨rfl, Below.refl _ _⟩

set_option maxHeartbeats 1000000 in
theorem spec_l02Give (A : Option Addr) (c : Nat) (Q : List S42) (B : Option Addr) (e : Nat) (T : List (List Int)) (w : World) (hT : Kd.C (Kd.slice 2 (Kd.int .i64)) w B T.length T) (hqt : T.length ≤ e) :
    Calls Try.prog 57 #[.agg #[.slice A Q.length c, .slice B T.length e]] w fun E w' => E = .returned (.tuple #[giveV (validB Q.length T) (.slice A Q.length c) (.slice B T.length e), .bool (validB Q.length T)]) ∧ Below w.heap.size w w' := by
  have hb0 := below_alloc (below_alloc (Below.refl w.heap.size w) (.cells #[.slice A Q.length c, .slice B T.length e] 27)) (.cells #[.slice none 0 0, .slice none 0 0] 27)
  have hbx := (BoxAt.new w 27 (.slice A Q.length c) (.slice B T.length e)).below (below_alloc (Below.refl _ _) (.cells #[.slice none 0 0, .slice none 0 0] 27))
  have hms : (w.alloc (.cells #[.slice A Q.length c, .slice B T.length e] 27)).heap.size = w.heap.size + 1 := by simp
  have hf0 := BoxAt.new (w.alloc (.cells #[.slice A Q.length c, .slice B T.length e] 27)) 27 (.slice none 0 0) (.slice none 0 0)
  rw [hms] at hf0
  have HX0 := Lib.hid hbx
  have HB0 := Lib.hid hb0
  have F0 := Lib.hid hf0
  have HV := Lib.hid (fun (W : World) (hx : BoxAt W w.heap.size 27 (.slice A Q.length c) (.slice B T.length e)) (h : Below w.heap.size w W) => spec_l02Is_reads w.heap.size A c Q B e T W hx (Kd.C_below hT h) hqt)
  generalize validB Q.length T = b at *
  clear hb0 hbx hf0 hms hT hqt
  go_enter Try.func57, Try.ntmps57
  cases b
  · go_wp2_with (first
      | (go_at_call 69; refine (HV.out _ HX0.out HB0.out).mono ?_; rintro E w1 ⟨rfl, hb⟩; have B1 := Lib.hid (below_then HB0.out hb HB0.out.size); have hf1 := F0.out.below hb; have f0 := hf1.c0; have f1 := hf1.c1; have z0 := blk_frozen hf1 0; have z1 := blk_frozen hf1 1; clear hb)
      | fail)
    ((try simp only [Exit.inBlock, Exit.then]); refine bodyPost_ret (by simp [results, Try.results57, go_sem, f0, f1, setCell_same_of, World.cell?_setCell_other]; try rfl) rfl ?_)
    exact ⟨rfl, below_set (below_set B1.out (Nat.le_succ _)) (Nat.le_succ _)⟩
  · go_wp2_with (first
      | (go_at_call 69; refine (HV.out _ HX0.out HB0.out).mono ?_; rintro E w1 ⟨rfl, hb⟩; have B1 := Lib.hid (below_then HB0.out hb HB0.out.size); have hx1 := HX0.out.below hb; have hd0 := hx1.c0; have hd1 := hx1.c1; have hf1 := F0.out.below hb; have f0 := hf1.c0; have f1 := hf1.c1; have z0 := blk_frozen hf1 0; have z1 := blk_frozen hf1 1; clear hb)
      | fail)
    ((try simp only [Exit.inBlock, Exit.then]); refine bodyPost_ret (by simp [results, Try.results57, go_sem, f0, f1, setCell_same_of, World.cell?_setCell_other]; try rfl) rfl ?_)
    exact ⟨rfl, below_set (below_set B1.out (Nat.le_succ _)) (Nat.le_succ _)⟩

end Go.Proofs.Ytepilofcionekaa
namespace Go.Proofs.Ytepilofcionekaa
open Fl Go.RowKit Go.Proofs.YtepilofcionekaaW.PrintWords Go.Proofs.YtepilofcionekaaW.PrintLast Go.Proofs.YtepilofcionekaaW.PrintMore Go.Proofs.Ytepilofcionekaa.PMesh Msh Pie
attribute [local go_sem] max2_int min2_int max_two min_two
set_option linter.unusedVariables false
set_option linter.unusedSimpArgs false

/-- Numbers as Go's. -/
def ints (L : List Nat) : List Int := L.map Int.ofNat
theorem ints_len (L : List Nat) : (ints L).length = L.length := by simp [ints]
theorem ints_rd (L : List Nat) (j : Nat) (h : j < L.length) : rd (ints L) (j : Int) = ((L.getD j j : Nat) : Int) := by
  rw [rdI (ints L) j (by rw [ints_len]; exact h)]
  simp [ints, List.getD_eq_getElem?_getD, h]
theorem ints_set (L : List Nat) (j v : Nat) : (ints L).set j (v : Int) = ints (L.set j v) := by simp [ints, List.map_set]
theorem ints_snoc (L : List Nat) (v : Nat) : ints L ++ [(v : Int)] = ints (L ++ [v]) := by simp [ints]

/-- A variable of one cell. -/
def Cell1 (W : World) (g : Nat) (t : TypeId) (v : Value) : Prop := W.heap[g]? = some (.cells #[v] t (0, 0))
theorem Cell1.c0 {W : World} {g : Nat} {t : TypeId} {v : Value} (h : Cell1 W g t v) : W.cell? ⟨g, 0, none⟩ = some v := (blk_cell h 0).trans rfl
theorem Cell1.below {W W' : World} {g : Nat} {t : TypeId} {v : Value} (h : Cell1 W g t v) (hb : Below W.heap.size W W') : Cell1 W' g t v := (hb.block g (blk_lt h)).trans h
theorem Cell1.new (W : World) (t : TypeId) (v : Value) : Cell1 (W.alloc (.cells #[v] t)) W.heap.size t v := heap_alloc_new W _

set_option maxHeartbeats 1000000 in
theorem impl_root (L : List Nat) (hd : Pie.Down L) (hl : L.length ≤ 1048576) (i : Nat) (hi : i < L.length) (gl : Nat) (A : Option Addr) (c : Nat) (w : World) (hb : Cell1 w gl 101 (.slice A L.length c)) (hC : Kd.C (Kd.int .i64) w A L.length (ints L)) :
    Calls Try.prog 78 #[.int .i64 (i : Int), .pointer (some ⟨gl, 0, none⟩)] w fun E w' => E = .returned (.int .i64 ((Pie.root L i : Nat) : Int)) ∧ Below w.heap.size w w' := by
  have hc0 := hb.c0
  have HC := Lib.hid hC
  clear hb hC
  go_enter Try.func78, Try.ntmps78
  go_wp2_with fail
  go_loopw [4] (fun k wr => ∃ j : Nat, j < L.length ∧ k = .int .i64 (j : Int) ∧ wr = w ∧ Hid (Pie.root L j = Pie.root L i)) (fun k _ => (intOf k).toNat)
  case atStart => exact ⟨i, hi, rfl, rfl, Lib.hid rfl⟩
  case round =>
    obtain ⟨j, hj, rfl, rfl, HR⟩ := hrel
    have b1 : (j : Int) < (L.length : Int) := by omega
    have b2 : (0 : Int) ≤ (j : Int) := by omega
    obtain ⟨ad, rfl, hat⟩ := Kd.at_int HC.out (j : Int) b2 b1
    rw [ints_rd L j hj, Int.toNat_natCast] at hat
    have hdj := hd j
    obtain ⟨m, hm⟩ : ∃ m, m = L.getD j j := ⟨_, rfl⟩
    rw [← hm] at hat hdj
    have HM := Lib.hid hm
    clear hm
    by_cases h : m = j
    · subst h
      go_wp2_with fail
      go_ret
      refine ⟨?_, Below.refl _ _⟩
      rw [← HR.out, Pie.root_end hd HM.out.symm]
      rfl
    · have hne : ¬ ((m : Int) = (j : Int)) := by omega
      have hlt : m < j := by omega
      go_wp2_with fail
      exact ⟨⟨m, by omega, rfl, by first | rfl | trivial, Lib.hid (by rw [← HR.out]; have e := HM.out; rw [Pie.root_on (k := j) (by omega), ← e])⟩, by simp [intOf]; omega⟩

end Go.Proofs.Ytepilofcionekaa
namespace Go.Proofs.Ytepilofcionekaa.Msh
open Fl Go.RowKit Go.Proofs.YtepilofcionekaaW.PrintWords Go.Proofs.Ytepilofcionekaa.PMesh
set_option linter.unusedVariables false

def hasAll (ps : List Int) (t : List Int) : Bool := ps.all fun p => t.contains p
/-- The numbers, from i on, of those triangles that have all of some places. -/
def withL (ps : List Int) : Nat → List (List Int) → List Int
  | _, [] => []
  | i, t :: r => if hasAll ps t = true then (i : Int) :: withL ps (i + 1) r else withL ps (i + 1) r

theorem withL_len (ps : List Int) (T : List (List Int)) : ∀ i, (withL ps i T).length ≤ T.length := by
  induction T with
  | nil => intro i; simp [withL]
  | cons t r ih => intro i; have := ih (i + 1); unfold withL; split <;> simp <;> omega

theorem hasAll_two (a b : Int) (t : List Int) : hasAll [a, b] t = (t.contains a && t.contains b) := by simp [hasAll]

theorem all3 {n : Nat} {T : List (List Int)} (h : T.all (triB n) = true) : ∀ t ∈ T, t.length = 3 := fun t ht => triB_len (List.all_eq_true.1 h t ht)
theorem validB_iff {n : Nat} {T : List (List Int)} : validB n T = true ↔ n ≤ 64 ∧ T.length ≤ 128 ∧ T.all (triB n) = true := by simp [validB, and_assoc]

theorem has_f (t : List Int) (h : t.length = 3) (p : Int) : spec_l02Has.f t p = some (t.contains p) := by
  obtain ⟨a, b, c, rfl⟩ := tri3 h
  unfold spec_l02Has.f
  simp only [rd3_0, rd3_1, rd3_2, List.length_cons, List.length_nil]
  by_cases e0 : a = p
  · simp [e0]
  · by_cases e1 : b = p
    · simp [e0, e1]
    · by_cases e2 : c = p
      · simp [e0, e1, e2]
      · have e0' : ¬ p = a := fun h => e0 h.symm
        have e1' : ¬ p = b := fun h => e1 h.symm
        have e2' : ¬ p = c := fun h => e2 h.symm
        simp [e0, e1, e2, e0', e1', e2']

theorem at_loop (Q : List S42) (T : List (List Int)) (hT : T.length ≤ 128) (h3 : ∀ t ∈ T, t.length = 3) (a b : Int) (d : Nat) : ∀ (k i : Nat) (out : List Int), i ≤ T.length → T.length - i = d → out.length ≤ i → d < k → spec_l02At.l0 k a b out (i : Int) Q T = some (out ++ withL [a, b] i (T.drop i)) := by
  induction d with
  | zero =>
    intro k i out hi hd ho hk
    obtain ⟨k, rfl⟩ : ∃ j, k = j + 1 := ⟨k - 1, by omega⟩
    simp only [spec_l02At.l0]
    rw [if_neg (by omega), List.drop_of_length_le (by omega)]
    simp [withL]
  | succ d ih =>
    intro k i out hi hd ho hk
    obtain ⟨k, rfl⟩ : ∃ j, k = j + 1 := ⟨k - 1, by omega⟩
    have hil : i < T.length := by omega
    have e : T.drop i = T[i] :: T.drop (i + 1) := List.drop_eq_getElem_cons hil
    have hl3 := h3 _ (List.getElem_mem hil)
    simp only [spec_l02At.l0]
    rw [if_pos (by omega), if_pos (by omega), rdL T i hil, has_f _ hl3, e]
    simp only [Option.bind_some, withL]
    rw [hasAll_two, has_f _ hl3]
    simp only [Option.bind_some]
    by_cases ha : T[i].contains a = true
    · rw [if_pos ha]
      by_cases hb : T[i].contains b = true
      · rw [if_pos hb, if_pos (by omega), if_pos (by rw [ha, hb]; rfl), up i (by omega), ih k (i + 1) _ (by omega) (by omega) (by simp; omega) (by omega), List.append_assoc]
        rfl
      · rw [if_neg hb, if_neg (by simp only [ha, Bool.true_and]; exact hb), up i (by omega), ih k (i + 1) _ (by omega) (by omega) (by omega) (by omega)]
    · rw [if_neg ha, if_neg (by rw [Bool.eq_false_iff.2 ha]; simp), up i (by omega), ih k (i + 1) _ (by omega) (by omega) (by omega) (by omega)]

theorem at_f (Q : List S42) (T : List (List Int)) (hv : validB Q.length T = true) (a b : Int) : spec_l02At.f 200 Q T a b = some (withL [a, b] 0 T) := by
  obtain ⟨_, h2, h3⟩ := validB_iff.1 hv
  unfold spec_l02At.f
  have := at_loop Q T h2 (all3 h3) a b T.length 200 0 [] (by omega) (by omega) (by simp) (by omega)
  rw [show ((0 : Nat) : Int) = 0 from rfl] at this
  rw [this]
  simp

end Go.Proofs.Ytepilofcionekaa.Msh
namespace Go.Proofs.Ytepilofcionekaa
open Fl Go.RowKit Go.Proofs.YtepilofcionekaaW.PrintWords Go.Proofs.YtepilofcionekaaW.PrintLast Go.Proofs.YtepilofcionekaaW.PrintMore Go.Proofs.Ytepilofcionekaa.PMesh Msh Pie
attribute [local go_sem] max2_int min2_int max_two min_two
set_option linter.unusedVariables false
set_option linter.unusedSimpArgs false

/-- The first and the second, the first and the third place of each triangle. -/
def pairsOf (T : List (List Int)) : List (Nat × Nat) := T.flatMap fun t => [((rd t 0).toNat, (rd t 1).toNat), ((rd t 0).toNat, (rd t 2).toNat)]
theorem pairsOf_snoc (T : List (List Int)) (t : List Int) : pairsOf (T ++ [t]) = pairsOf T ++ [((rd t 0).toNat, (rd t 1).toNat)] ++ [((rd t 0).toNat, (rd t 2).toNat)] := by simp [pairsOf]
/-- Paths that lead to the least place of each piece. -/
structure PathL (n : Nat) (E : List (Nat × Nat)) (L : List Nat) : Prop where
  len : L.length = n
  down : Down L
  lab : Lab E (root L)
theorem PathL.start (n : Nat) : PathL n [] (List.range n) := ⟨by simp, down_range n, by rw [root_range]; exact Lab.start⟩
theorem PathL.step {n : Nat} {E : List (Nat × Nat)} {L : List Nat} (h : PathL n E L) (a b : Nat) (ha : a < n) (hb : b < n) : PathL n (E ++ [(a, b)]) (L.set (max (root L a) (root L b)) (min (root L a) (root L b))) := by
  obtain ⟨h1, h2⟩ := root_mrg h.down (a := a) (b := b) (by rw [h.len]; exact ha) (by rw [h.len]; exact hb)
  exact ⟨by rw [List.length_set]; exact h.len, h1, by rw [h2]; exact h.lab.step a b⟩
/-- The paths that the triangles make. -/
def pathL (n : Nat) (E : List (Nat × Nat)) : List Nat := E.foldl (fun L p => L.set (max (root L p.1) (root L p.2)) (min (root L p.1) (root L p.2))) (List.range n)
theorem pathL_ok (n : Nat) (E : List (Nat × Nat)) (h : ∀ p ∈ E, p.1 < n ∧ p.2 < n) : PathL n E (pathL n E) := by
  have key : ∀ (F D : List (Nat × Nat)) (L : List Nat), PathL n D L → (∀ p ∈ F, p.1 < n ∧ p.2 < n) → PathL n (D ++ F) (F.foldl (fun L p => L.set (max (root L p.1) (root L p.2)) (min (root L p.1) (root L p.2))) L) := by
    intro F
    induction F with
    | nil => intro D L hL _; simpa using hL
    | cons p r ih =>
      intro D L hL hF
      obtain ⟨h1, h2⟩ := hF p (by simp)
      have := ih (D ++ [p]) _ (hL.step p.1 p.2 h1 h2) (fun q hq => hF q (by simp [hq]))
      rw [List.append_assoc] at this
      exact this
  have := key E [] _ (PathL.start n) h
  rwa [List.nil_append] at this
/-- What PiecesOf answers. -/
def pieR (n : Nat) (T : List (List Int)) : List Int × Int × Bool := if validB n T = true then ((numL (root (pathL n (pairsOf T))) n).1, ((numL (root (pathL n (pairsOf T))) n).2 : Int), true) else ([], 0, false)
theorem tri_nat {n : Nat} {t : List Int} (h : triB n t = true) : ∃ a b c : Nat, t = [(a : Int), (b : Int), (c : Int)] ∧ a < n ∧ b < n ∧ c < n := by
  obtain ⟨x, y, z, rfl⟩ := tri3 (triB_len h)
  rw [triB_rd n _ rfl] at h
  simp [inB, rd3_0, rd3_1, rd3_2] at h
  obtain ⟨_, ⟨h1, h2⟩, ⟨h3, h4⟩, h5, h6⟩ := h
  exact ⟨x.toNat, y.toNat, z.toNat, by rw [Int.toNat_of_nonneg h1, Int.toNat_of_nonneg h3, Int.toNat_of_nonneg h5], by omega, by omega, by omega⟩
theorem valid_tri {n : Nat} {T : List (List Int)} (h : validB n T = true) (t : List Int) (ht : t ∈ T) : triB n t = true := List.all_eq_true.1 (validB_iff.1 h).2.2 t ht
theorem pairs_lt {n : Nat} {T : List (List Int)} (h : validB n T = true) : ∀ p ∈ pairsOf T, p.1 < n ∧ p.2 < n := by
  intro p hp
  obtain ⟨t, ht, hp⟩ := List.mem_flatMap.1 hp
  obtain ⟨a, b, c, rfl, ha, hb, hc⟩ := tri_nat (valid_tri h t ht)
  simp only [rd3_0, rd3_1, rd3_2, Int.toNat_natCast, List.mem_cons, List.not_mem_nil, or_false] at hp
  rcases hp with rfl | rfl
  · exact ⟨ha, hb⟩
  · exact ⟨ha, hc⟩
theorem mx_nat (a b : Nat) : (if a < b then (b : Int) else (a : Int)) = ((max a b : Nat) : Int) := by split <;> omega
theorem mn_nat (a b : Nat) : (if b < a then (b : Int) else (a : Int)) = ((min a b : Nat) : Int) := by split <;> omega

/-- What PiecesOf leaves. -/
def AnsP (w : World) (r : List Int × Int × Bool) (E : Ending) (w' : World) : Prop := ∃ v : Value, E = .returned (.tuple #[v, .int .i64 r.2.1, .bool r.2.2]) ∧ Kd.R (Kd.int .i64) 2 w' w.heap.size (fun _ => True) v r.1 ∧ Below w.heap.size w w'

set_option maxHeartbeats 4000000 in
set_option maxRecDepth 100000 in
theorem impl_PiecesOf (A : Option Addr) (c : Nat) (Q : List S42) (B : Option Addr) (e : Nat) (T : List (List Int)) (w : World) (hQ : Kd.C k42 w A Q.length Q) (hq : Q.length ≤ c) (hT : Kd.C (Kd.slice 2 (Kd.int .i64)) w B T.length T) (hqt : T.length ≤ e) :
    Calls Try.prog 29 #[.agg #[.slice A Q.length c, .slice B T.length e]] w (AnsP w (pieR Q.length T)) := by
  have hb0 := below_alloc (Below.refl w.heap.size w) (.cells #[.slice A Q.length c, .slice B T.length e] 27)
  have hbx := BoxAt.new w 27 (.slice A Q.length c) (.slice B T.length e)
  have HX0 := Lib.hid hbx
  have HB0 := Lib.hid hb0
  have hc0 := hbx.c0
  have hc1 := hbx.c1
  have HV := Lib.hid (fun (W : World) (h : Below w.heap.size w W) => impl_ValidMesh.calls 2097156 A c Q B e T _ W (Kd.C_below hQ h) hq (Kd.C_below hT h) hqt (valid_f Q T _ (by omega)))
  by_cases hv : validB Q.length T = true
  · obtain ⟨hn, ht, _⟩ := validB_iff.1 hv
    have hr : pieR Q.length T = ((numL (root (pathL Q.length (pairsOf T))) Q.length).1, ((numL (root (pathL Q.length (pairsOf T))) Q.length).2 : Int), true) := by unfold pieR; rw [if_pos hv]
    have HPL := Lib.hid (pathL_ok Q.length (pairsOf T) (pairs_lt hv)).lab
    have HTR := Lib.hid (valid_tri hv)
    have HT := Lib.hid hT
    rw [hv] at HV
    rw [hr]
    clear hr hv hQ hq hT hqt hb0 hbx
    generalize Q.length = n at *
    generalize root (pathL n (pairsOf T)) = rr at *
    go_enter Try.func29, Try.ntmps29
    go_wp2_with (first
      | (go_at_call 43; refine (HV.out _ HB0.out).mono ?_; rintro E w1 ⟨rfl, hb⟩; have B1 := Lib.hid (below_then HB0.out hb HB0.out.size); have X1 := Lib.hid (HX0.out.below hb); clear hb hc0 hc1)
      | ((with_reducible refine gate_dst (N := 21) rfl ?_); refine Kd.R_lit (Kd.int .i64) _ 3 ?hg (N := 21) ?hd (xs := ([] : List Int)) (inner := []) (ok := fun _ => True) (okp := fun _ => True) ?hr ?hp (fun _ hk => hk) trivial (Below.refl _ _) (Nat.le_refl _) (by simp) ?_; (case hd => rfl); (case hg => rfl); (case hr => first | (go_simp; done) | (go_simp; rfl)); (case hp => exact (Reps.none _ _)); intro v2 w2 ho hb hg_ hnew_; clear hg_ hnew_; obtain ⟨Al, cl, rfl⟩ := Kd.R_slice ho; have B2 := Lib.hid (below_step B1.out hb); have X2 := Lib.hid (X1.out.below hb); have R2 := Lib.hid (Kd.R_lower ho (below_size B1.out)); have k0 := (X2.out.below (below_alloc (Below.refl _ _) (.cells #[.slice Al 0 cl] 101))).c0; clear ho hb)
      | fail)
    obtain ⟨w3, hw3⟩ : ∃ W, W = w2.alloc (.cells #[.slice Al 0 cl] 101) := ⟨_, rfl⟩
    have hb3 : Below w2.heap.size w2 w3 := by rw [hw3]; exact below_alloc (Below.refl _ _) _
    have B3 := Lib.hid (below_step B2.out hb3)
    have X3 := Lib.hid (X2.out.below hb3)
    have L3 := Lib.hid (show Cell1 w3 w2.heap.size 101 (.slice Al 0 cl) by rw [hw3]; exact Cell1.new w2 101 _)
    have R3 := Lib.hid (Kd.R_below R2.out hb3)
    have hgl : w.heap.size < w2.heap.size := by have := X2.out.lt; exact this
    rw [← hw3]
    generalize w2.heap.size = gl at *
    clear hw3 hb3 B2 X2 R2 B1 X1 HV HB0 HX0 k0
    go_loopw [25] (fun k wr => ∃ (i cv : Nat) (Av : Option Addr), i ≤ n ∧ k = .int .i64 (i : Int) ∧ Hid (Below w.heap.size w wr) ∧ Hid (BoxAt wr w.heap.size 27 (.slice A n c) (.slice B T.length e)) ∧ Hid (Cell1 wr gl 101 (.slice Av i cv)) ∧ Hid (Kd.R (Kd.int .i64) 3 wr w.heap.size (fun _ => True) (.slice Av i cv) (ints (List.range i)))) (fun k _ => n - (intOf k).toNat)
    case atStart => exact ⟨0, cl, Al, Nat.zero_le _, rfl, B3, X3, L3, R3⟩
    case round =>
      clear B3 X3 L3 R3
      obtain ⟨i, cv, Av, hi, rfl, HB, HX, HL, HR⟩ := hrel
      by_cases hlt : i < n
      · have b1 : (i : Int) < (n : Int) := by omega
        have b2 : (0 : Int) ≤ (i : Int) := by omega
        have b3 : (i : Int) < 9223372036854775807 := by omega
        have l0 := HL.out.c0
        go_wp2_with (first
          | ((with_reducible refine gate_builtin (b := .append) (xs := #[.tmp 28, .tmp 30]) rfl ?_); at_builtin; refine Kd.R_append (Kd.int .i64) (w0 := w) w.heap.size rfl (.tmp 28) (.tmp 30) 101 3 (.int .i64 0) 8 rfl Try.underlying101 (by kernel_rfl) rfl (by decide) (by omega) (.slice Av i cv) (ints (List.range i)) (i : Int) [.int .i64 (i : Int)] (fun _ => True) (fun _ => False) rfl rfl ?aP (fun _ hk => hk.elim) ?aF ?aO HB.out ?aS ?aL ?_; (case aP => exact rfl); (case aF => exact (fun _ _ => trivial)); (case aO => exact HR.out); (case aS => exact below_size HB.out); (case aL => rw [ints_len, List.length_range]; omega); intro v3 w4 ho hb hg hat; have hL4 := Lib.hid (show Cell1 w4 gl 101 (.slice Av i cv) from blk_grown HL.out hg (Kd.R_ne HR.out HL.out (by decide))); have hX4 := Lib.hid (show BoxAt w4 w.heap.size 27 (.slice A n c) (.slice B T.length e) from blk_grown HX.out hg (Kd.R_ne HR.out HX.out (by decide))); rw [ints_snoc, ← List.range_succ] at ho; obtain ⟨Aw, cw, ev⟩ := Kd.R_slice ho; rw [ints_len, List.length_range] at ev; subst ev; have f4 := blk_frozen hL4.out 0; have l4 := hL4.out.c0; have B4 := Lib.hid hb; have R4 := Lib.hid ho; clear ho hb hg hat l0)
          | fail)
        exact ⟨⟨i + 1, cw, Aw, hlt, by simp, Lib.hid (below_set B4.out (Nat.le_of_lt hgl)), Lib.hid (blk_far hX4.out (Nat.ne_of_lt hgl) _), Lib.hid (blk_put hL4.out 0 _ rfl), Lib.hid (Kd.R_mono (Kd.R_far (p := ⟨gl, 0, none⟩) (Kd.R_types R4.out hL4.out (by decide)) (fun _ hk => hk.2) _) (fun _ _ => trivial))⟩, by simp [intOf]; omega⟩
      · obtain rfl : n = i := by omega
        have x1 := HX.out.c1
        go_wp2_with fail
        clear x1
        go_loopw [37] (fun k wr => ∃ (i : Nat) (L : List Nat), i ≤ T.length ∧ k = .int .i64 (i : Int) ∧ Hid (Below w.heap.size w wr) ∧ Hid (BoxAt wr w.heap.size 27 (.slice A n c) (.slice B T.length e)) ∧ Hid (Cell1 wr gl 101 (.slice Av n cv)) ∧ Hid (PathL n (pairsOf (T.take i)) L) ∧ Hid (Kd.R (Kd.int .i64) 3 wr w.heap.size (fun _ => True) (.slice Av n cv) (ints L))) (fun k _ => T.length - (intOf k).toNat)
        case atStart => exact ⟨0, List.range n, Nat.zero_le _, rfl, HB, HX, HL, Lib.hid (by simp only [List.take_zero]; exact PathL.start n), HR⟩
        case round =>
          clear HB HX HL HR hlt
          obtain ⟨i, L, hi, rfl, HB, HX, HL, HP, HR⟩ := hrel
          by_cases hlt : i < T.length
          · have b1 : (i : Int) < (T.length : Int) := by omega
            have b2 : (0 : Int) ≤ (i : Int) := by omega
            have b3 : (i : Int) < 9223372036854775807 := by omega
            obtain ⟨ba, C, cc, rfl, tc, hcc, hC⟩ := at_L3 HT.out (i : Int) (by omega) (by omega)
            rw [rdL T i hlt] at tc hcc hC
            rw [Int.toNat_natCast] at tc
            obtain ⟨a1, a2, a3, et, h1, h2, h3⟩ := tri_nat (HTR.out T[i] (List.getElem_mem hlt))
            have htk : pairsOf (T.take (i + 1)) = pairsOf (T.take i) ++ [(a1, a2)] ++ [(a1, a3)] := by
              rw [List.take_succ_eq_append_getElem hlt, et, pairsOf_snoc]
              simp [rd3_0, rd3_1, rd3_2]
            rw [et] at tc hcc hC
            replace tc : wr.cell? (ba.add i) = some (.slice C 3 cc) := oldc HB.out tc
            replace hcc : 3 ≤ cc := hcc
            obtain ⟨i0, hi0, _, hsz, _⟩ := info_parts info2
            have hcut := cut_from (P := Try.prog) 56 2 .i64 Try.underlying56 hi0 1 hsz C 3 cc 1 (by omega) (by omega)
            have hC1 := Kd.C_drop (m := 1) hC (by simp) hcc
            obtain ⟨ad0, rfl, hat0⟩ := Kd.at_int hC 0 (by omega) (by simp)
            have HK := Lib.hid htk
            obtain ⟨A', eA⟩ : ∃ A', A' = (if cc = (1 : Int).toNat then some ad0 else (some ad0).map (·.add ((1 : Int).toNat * 1))) := ⟨_, rfl⟩
            rw [← eA] at hcut
            replace hC1 : Kd.C (Kd.int .i64) w A' 2 [(a2 : Int), (a3 : Int)] := by rw [eA]; exact hC1
            have HC1 := Lib.hid hC1
            have x1 := HX.out.c1
            rw [rd3_0, show Int.toNat 0 = 0 from rfl, Addr.add_zero'] at hat0
            have HA0 := Lib.hid hat0
            clear eA et htk hC hC1 hat0
            go_wp2_with fail
            clear x1 tc hcut
            go_loopw [44] (fun k wq => ∃ (j : Nat) (M : List Nat), j ≤ 2 ∧ k = .int .i64 (j : Int) ∧ Hid (Below w.heap.size w wq) ∧ Hid (BoxAt wq w.heap.size 27 (.slice A n c) (.slice (some ba) T.length e)) ∧ Hid (Cell1 wq gl 101 (.slice Av n cv)) ∧ Hid (PathL n (pairsOf (T.take i) ++ [(a1, a2), (a1, a3)].take j) M) ∧ Hid (Kd.R (Kd.int .i64) 3 wq w.heap.size (fun _ => True) (.slice Av n cv) (ints M)) ) (fun k _ => 2 - (intOf k).toNat)
            case atStart => exact ⟨0, L, Nat.zero_le _, rfl, HB, HX, HL, Lib.hid (by simpa using HP.out), HR⟩
            case round =>
              clear HB HX HL HP HR b1 b2 b3
              obtain ⟨j, M, hj, rfl, HB, HX, HL, HP, HR⟩ := hrel
              have hat0 := oldc HB.out HA0.out
              by_cases hjl : j < 2
              · have b1 : (j : Int) < 2 := by omega
                have b2 : (0 : Int) ≤ (j : Int) := by omega
                have b3 : (j : Int) < 9223372036854775807 := by omega
                obtain ⟨ad1, rfl, hat1⟩ := Kd.at_int (Kd.C_below HC1.out HB.out) (j : Int) b2 (by omega)
                rw [Int.toNat_natCast] at hat1
                obtain ⟨q, hq, hqn, hqt⟩ : ∃ q : Nat, rd [(a2 : Int), (a3 : Int)] (j : Int) = (q : Int) ∧ q < n ∧ [(a1, a2), (a1, a3)].take (j + 1) = [(a1, a2), (a1, a3)].take j ++ [(a1, q)] := by
                  rcases (by omega : j = 0 ∨ j = 1) with rfl | rfl
                  · exact ⟨a2, rfl, h2, rfl⟩
                  · exact ⟨a3, rfl, h3, rfl⟩
                rw [hq] at hat1
                have hML := HP.out.len
                have HRT := Lib.hid (fun (k : Nat) (hk : k < n) (W : World) (h : Cell1 W gl 101 (.slice Av n cv)) (hC : Kd.C (Kd.int .i64) W Av (ints M).length (ints M)) => impl_root M HP.out.down (by omega) k (by omega) gl Av cv W (by rw [hML]; exact h) (by rw [ints_len] at hC; exact hC))
                have HQT := Lib.hid hqt
                have HPS := Lib.hid (HP.out.step a1 q h1 hqn)
                obtain ⟨ra, hra⟩ : ∃ x, x = root M a1 := ⟨_, rfl⟩
                obtain ⟨rq, hrq⟩ : ∃ x, x = root M q := ⟨_, rfl⟩
                have hra1 : ra < n := by have := root_le M a1; omega
                have hrq1 : rq < n := by have := root_le M q; omega
                have c1 : ((max ra rq : Nat) : Int) < (n : Int) := by omega
                have c2 : (0 : Int) ≤ ((max ra rq : Nat) : Int) := by omega
                have c3 := mx_nat ra rq
                have c4 := mn_nat ra rq
                rw [← hra, ← hrq] at HPS
                have HRA := Lib.hid hra
                have HRQ := Lib.hid hrq
                clear hq hqt hra hrq
                obtain ⟨gr, cr, er, hgr1, hgr2, hgr3⟩ := Kd.R_form HR.out (by rw [ints_len]; omega)
                rw [ints_len, hML] at er
                obtain ⟨rfl, rfl⟩ : Av = some ⟨gr, 0, none⟩ ∧ cv = cr := by injection er with h1 _ h3; exact ⟨h1, h3⟩
                generalize hMM : max ra rq = mM at *
                generalize hMm : min ra rq = mm at *
                clear er hgr3 hMM hMm hML hra1 hrq1
                have x1 := HX.out.c1
                go_wp2_with (first
                  | (go_at_call 78; first
                     | ((with_reducible refine (HRT.out a1 h1 _ HL.out (Kd.R_reads' HR.out).2.2).mono ?_); rintro E w5 ⟨rfl, hb⟩; have B5 := Lib.hid (below_then HB.out hb HB.out.size); have X5 := Lib.hid (HX.out.below hb); have L5 := Lib.hid (HL.out.below hb); have R5 := Lib.hid (Kd.R_below HR.out hb); rw [← HRA.out]; clear hb)
                     | ((with_reducible refine (HRT.out q hqn _ L5.out (Kd.R_reads' R5.out).2.2).mono ?_); rintro E w6 ⟨rfl, hb⟩; have B6 := Lib.hid (below_then B5.out hb B5.out.size); have X6 := Lib.hid (X5.out.below hb); have L6 := Lib.hid (L5.out.below hb); have R6 := Lib.hid (Kd.R_below R5.out hb); have l6 := L6.out.c0; rw [← HRQ.out]; obtain ⟨e6, f6⟩ := Kd.R_celln (0 : Int) R6.out (mM : Int) c2 c1; rw [Int.toNat_natCast] at e6 f6; clear hb))
                  | fail)
                have n1 : w.heap.size ≠ gr := fun h => Kd.R_ne R6.out X6.out (by decide) (by rw [h]; rfl)
                have n2 : gl ≠ gr := fun h => Kd.R_ne R6.out L6.out (by decide) (by rw [h]; rfl)
                have hput := Kd.R_putn R6.out (mM : Int) (mm : Int)
                rw [Int.toNat_natCast, ints_set] at hput
                exact ⟨⟨j + 1, M.set mM mm, by omega, by simp, Lib.hid (below_set B6.out hgr1), Lib.hid (blk_far X6.out n1 _), Lib.hid (blk_far L6.out n2 _), Lib.hid (by rw [HQT.out, ← List.append_assoc]; exact HPS.out), Lib.hid hput⟩, by simp [intOf]; omega⟩
              · obtain rfl : 2 = j := by omega
                go_wp2_with fail
                exact ⟨⟨i + 1, M, hlt, by simp, HB, HX, HL, Lib.hid (by rw [HK.out, List.append_assoc]; exact HP.out), HR⟩, by simp [intOf]; omega⟩
          · obtain rfl : i = T.length := by omega
            have x0 := HX.out.c0
            go_wp2_with (first
              | ((with_reducible refine gate_dst (N := 66) rfl ?_); refine Kd.R_lit (Kd.int .i64) _ 2 ?hg (N := 66) ?hd (xs := ([] : List Int)) (inner := []) (ok := fun _ => True) (okp := fun _ => True) ?hr ?hp (fun _ hk => hk) trivial (Below.refl _ _) (Nat.le_refl _) (by simp) ?_; (case hd => rfl); (case hg => rfl); (case hr => first | (go_simp; done) | (go_simp; rfl)); (case hp => exact (Reps.none _ _)); intro v5 w5 ho hb hg_ hnew_; clear hg_ hnew_; obtain ⟨Ao, co, rfl⟩ := Kd.R_slice ho; have B5 := Lib.hid (below_step HB.out hb); have X5 := Lib.hid (HX.out.below hb); have L5 := Lib.hid (HL.out.below hb); have R5 := Lib.hid (Kd.R_below HR.out hb); have O5 := Lib.hid (Kd.R_lower ho (below_size HB.out)); have x5 := X5.out.c0; clear ho hb x0)
              | fail)
            have hrr : rr = root L := HPL.out.unique (by have := HP.out.lab; rwa [List.take_length] at this) (fun p hp => .pair hp) (fun p hp => .pair hp)
            subst hrr
            have hML := HP.out.len
            have HRT := Lib.hid (fun (k : Nat) (hk : k < n) (W : World) (h : Cell1 W gl 101 (.slice Av n cv)) (hC : Kd.C (Kd.int .i64) W Av (ints L).length (ints L)) => impl_root L HP.out.down (by omega) k (by omega) gl Av cv W (by rw [hML]; exact h) (by rw [ints_len] at hC; exact hC))
            clear x5 HB HX HL HR HP hML hlt
            go_loopw [14, 15, 70] (fun o m k wr => ∃ (i co : Nat) (Ao : Option Addr), i ≤ n ∧ o = .slice Ao i co ∧ m = .int .i64 ((numL (root L) i).2 : Int) ∧ k = .int .i64 (i : Int) ∧ Hid (Below w.heap.size w wr) ∧ Hid (BoxAt wr w.heap.size 27 (.slice A n c) (.slice B T.length e)) ∧ Hid (Cell1 wr gl 101 (.slice Av n cv)) ∧ Hid (Kd.R (Kd.int .i64) 3 wr w.heap.size (fun _ => True) (.slice Av n cv) (ints L)) ∧ Hid (Kd.R (Kd.int .i64) 2 wr w.heap.size (fun _ => True) (.slice Ao i co) (numL (root L) i).1)) (fun _ _ k _ => n - (intOf k).toNat)
            case atStart => exact ⟨0, co, Ao, Nat.zero_le _, rfl, rfl, rfl, B5, X5, L5, R5, O5⟩
            case round =>
              clear B5 X5 L5 R5 O5
              obtain ⟨i, co, Ao, hi, rfl, rfl, rfl, HB, HX, HL, HR, HO⟩ := hrel
              by_cases hlt : i < n
              · have b1 : (i : Int) < (n : Int) := by omega
                have b2 : (0 : Int) ≤ (i : Int) := by omega
                have b3 : (i : Int) < 9223372036854775807 := by omega
                have hnl := numL_le (root L) i
                have hrl := root_le L i
                obtain ⟨rv, hrv⟩ : ∃ x, x = root L i := ⟨_, rfl⟩
                rw [← hrv] at hrl
                have HRV := Lib.hid hrv
                by_cases he : rv = i
                · have HNX : Hid ((numL (root L) i).1 ++ [((numL (root L) i).2 : Int)] = (numL (root L) (i + 1)).1) := Lib.hid (by rw [numL, if_pos (by rw [← hrv]; exact he)])
                  have HNM : Hid ((numL (root L) i).2 + 1 = (numL (root L) (i + 1)).2) := Lib.hid (by rw [numL, if_pos (by rw [← hrv]; exact he)])
                  have he' := he.symm
                  subst he'
                  clear hrv he
                  generalize hm : (numL (root L) i).2 = m at *
                  clear hm
                  have b4 : (m : Int) < 9223372036854775807 := by omega
                  have b5 : (0 : Int) ≤ (m : Int) := by omega
                  go_wp2_with (first
                    | (go_at_call 78; (with_reducible refine (HRT.out i hlt _ HL.out (Kd.R_reads' HR.out).2.2).mono ?_); rintro E w7 ⟨rfl, hb⟩; have B7 := Lib.hid (below_then HB.out hb HB.out.size); have X7 := Lib.hid (HX.out.below hb); have L7 := Lib.hid (HL.out.below hb); have R7 := Lib.hid (Kd.R_below HR.out hb); have O7 := Lib.hid (Kd.R_below HO.out hb); rw [← HRV.out]; clear hb)
                    | ((with_reducible refine gate_builtin (b := .append) (xs := #[.tmp 79, .tmp 81]) rfl ?_); at_builtin; refine Kd.R_append (Kd.int .i64) (w0 := w) w.heap.size rfl (.tmp 79) (.tmp 81) 56 2 (.int .i64 0) 8 rfl Try.underlying56 info2 rfl (by decide) (by omega) (.slice Ao i co) (numL (root L) i).1 (m : Int) [.int .i64 (m : Int)] (fun _ => True) (fun _ => False) rfl rfl ?aP (fun _ hk => hk.elim) ?aF ?aO B7.out ?aS ?aL ?_; (case aP => exact rfl); (case aF => exact (fun _ _ => trivial)); (case aO => exact O7.out); (case aS => exact below_size B7.out); (case aL => rw [numL_len]; omega); intro v8 w8 ho hb hg hat; have L8 := Lib.hid (show Cell1 w8 gl 101 (.slice Av n cv) from blk_grown L7.out hg (Kd.R_ne O7.out L7.out (by decide))); have X8 := Lib.hid (show BoxAt w8 w.heap.size 27 (.slice A n c) (.slice B T.length e) from blk_grown X7.out hg (Kd.R_ne O7.out X7.out (by decide))); have R8 := Lib.hid (Kd.R_over' R7.out (Kd.R_typed O7.out) (by decide) hg); rw [HNX.out] at ho; obtain ⟨Aw, cw, ev⟩ := Kd.R_slice ho; rw [numL_len] at ev; subst ev; have B8 := Lib.hid hb; have O8 := Lib.hid ho; clear ho hb hg hat)
                    | fail)
                  exact ⟨⟨i + 1, cw, Aw, by omega, rfl, by rw [← HNM.out]; simp, by simp, B8, X8, L8, R8, O8⟩, by simp [intOf]; omega⟩
                · have HNX : Hid ((numL (root L) i).1 ++ [(numL (root L) i).1.getD rv 0] = (numL (root L) (i + 1)).1) := Lib.hid (by rw [numL, if_neg (by rw [← hrv]; exact he), hrv])
                  have HNM : Hid ((numL (root L) i).2 = (numL (root L) (i + 1)).2) := Lib.hid (by rw [numL, if_neg (by rw [← hrv]; exact he)])
                  have c0 : ((rv : Int) == (i : Int)) = false := beq_eq_false_iff_ne.2 (by omega)
                  have c1 : (rv : Int) < (i : Int) := by omega
                  have c2 : (0 : Int) ≤ (rv : Int) := by omega
                  clear hrv
                  obtain ⟨go, cr, er, hgo1, hgo2, hgo3⟩ := Kd.R_form HO.out (by rw [numL_len]; omega)
                  rw [numL_len] at er
                  obtain ⟨rfl, rfl⟩ : Ao = some ⟨go, 0, none⟩ ∧ co = cr := by injection er with h1 _ h3; exact ⟨h1, h3⟩
                  obtain ⟨e0, hfz⟩ := Kd.R_celln (0 : Int) HO.out (rv : Int) c2 c1
                  rw [Int.toNat_natCast, show rdOf (0 : Int) (numL (root L) i).1 (rv : Int) = (numL (root L) i).1.getD rv 0 from by unfold rdOf; rw [Int.toNat_natCast]] at e0
                  generalize (numL (root L) i).1.getD rv 0 = x at *
                  generalize hm : (numL (root L) i).2 = m at *
                  clear hm
                  have HE0 := Lib.hid e0
                  clear e0 er he hgo1 hgo2 hgo3 hfz hrl
                  go_wp2_with (first
                    | (go_at_call 78; (with_reducible refine (HRT.out i hlt _ HL.out (Kd.R_reads' HR.out).2.2).mono ?_); rintro E w7 ⟨rfl, hb⟩; have B7 := Lib.hid (below_then HB.out hb HB.out.size); have X7 := Lib.hid (HX.out.below hb); have L7 := Lib.hid (HL.out.below hb); have R7 := Lib.hid (Kd.R_below HR.out hb); have O7 := Lib.hid (Kd.R_below HO.out hb); rw [← HRV.out]; have e7 := oldc hb HE0.out; clear hb)
                    | ((with_reducible refine gate_builtin (b := .append) (xs := #[.tmp 85, .tmp 90]) rfl ?_); at_builtin; refine Kd.R_append (Kd.int .i64) (w0 := w) w.heap.size rfl (.tmp 85) (.tmp 90) 56 2 (.int .i64 0) 8 rfl Try.underlying56 info2 rfl (by decide) (by omega) (.slice (some ⟨go, 0, none⟩) i co) (numL (root L) i).1 x [.int .i64 x] (fun _ => True) (fun _ => False) rfl rfl ?aP (fun _ hk => hk.elim) ?aF ?aO B7.out ?aS ?aL ?_; (case aP => exact rfl); (case aF => exact (fun _ _ => trivial)); (case aO => exact O7.out); (case aS => exact below_size B7.out); (case aL => rw [numL_len]; omega); intro v8 w8 ho hb hg hat; have L8 := Lib.hid (show Cell1 w8 gl 101 (.slice Av n cv) from blk_grown L7.out hg (Kd.R_ne O7.out L7.out (by decide))); have X8 := Lib.hid (show BoxAt w8 w.heap.size 27 (.slice A n c) (.slice B T.length e) from blk_grown X7.out hg (Kd.R_ne O7.out X7.out (by decide))); have R8 := Lib.hid (Kd.R_over' R7.out (Kd.R_typed O7.out) (by decide) hg); rw [HNX.out] at ho; obtain ⟨Aw, cw, ev⟩ := Kd.R_slice ho; rw [numL_len] at ev; subst ev; have B8 := Lib.hid hb; have O8 := Lib.hid ho; clear ho hb hg hat)
                    | fail)
                  exact ⟨⟨i + 1, cw, Aw, by omega, rfl, by rw [← HNM.out], by simp, B8, X8, L8, R8, O8⟩, by simp [intOf]; omega⟩
              · obtain rfl : n = i := by omega
                go_wp2_with fail
                go_ret3
                exact ⟨_, rfl, HO.out, HB.out⟩
  · have hr : pieR Q.length T = ([], 0, false) := by unfold pieR; rw [if_neg hv]
    rw [Bool.eq_false_iff.2 hv] at HV
    rw [hr]
    clear hr hv hQ hq hT hqt hb0 hbx
    go_enter Try.func29, Try.ntmps29
    go_wp2_with (first
      | (go_at_call 43; refine (HV.out _ HB0.out).mono ?_; rintro E w1 ⟨rfl, hb⟩; have B1 := Lib.hid (below_then HB0.out hb HB0.out.size); clear hb hc0 hc1)
      | fail)
    go_ret3
    exact ⟨_, rfl, Kd.R_nil _ _ _ _ _, B1.out⟩

end Go.Proofs.Ytepilofcionekaa
namespace Go.Proofs.Ytepilofcionekaa.Msh
open Fl Go.RowKit Go.Proofs.YtepilofcionekaaW.PrintWords Go.Proofs.Ytepilofcionekaa.PMesh
set_option linter.unusedVariables false

/-- The three tways of a triangle. -/
def ways3 (t : List Int) : List (Nat × Nat) := [((rd t 0).toNat, (rd t 1).toNat), ((rd t 1).toNat, (rd t 2).toNat), ((rd t 2).toNat, (rd t 0).toNat)]
def tways (T : List (List Int)) : List (Nat × Nat) := T.flatMap ways3
/-- A way's edge. -/
def edgeN (p : Nat × Nat) : Nat × Nat := (min p.1 p.2, max p.1 p.2)
theorem ways_snoc (T : List (List Int)) (t : List Int) : tways (T ++ [t]) = tways T ++ ways3 t := by simp [tways]
theorem ways3_nat (a b c : Nat) : ways3 [(a : Int), (b : Int), (c : Int)] = [(a, b), (b, c), (c, a)] := by simp [ways3, rd3_0, rd3_1, rd3_2]
theorem ways3_len (t : List Int) : (ways3 t).length = 3 := rfl
theorem ways_len (T : List (List Int)) : (tways T).length = 3 * T.length := by
  induction T with
  | nil => rfl
  | cons t r ih => simp only [tways, List.flatMap_cons, List.length_append, ways3_len] at ih ⊢; rw [ih, List.length_cons]; omega

theorem tri_natE {n : Nat} {t : List Int} (h : triB n t = true) : ∃ a b c : Nat, t = [(a : Int), (b : Int), (c : Int)] ∧ a < n ∧ b < n ∧ c < n ∧ a ≠ b ∧ b ≠ c ∧ a ≠ c := by
  obtain ⟨x, y, z, rfl⟩ := tri3 (triB_len h)
  rw [triB_rd n _ rfl] at h
  simp [inB, rd3_0, rd3_1, rd3_2] at h
  have e1 := of_decide_eq_true h.1.1.1; have e2 := of_decide_eq_true h.1.1.2; have e3 := of_decide_eq_true h.1.2
  exact ⟨x.toNat, y.toNat, z.toNat, by rw [Int.toNat_of_nonneg (show 0 ≤ x by omega), Int.toNat_of_nonneg (show 0 ≤ y by omega), Int.toNat_of_nonneg (show 0 ≤ z by omega)], by omega, by omega, by omega, by omega, by omega, by omega⟩
theorem valid_triE {n : Nat} {T : List (List Int)} (h : validB n T = true) (t : List Int) (ht : t ∈ T) : triB n t = true := List.all_eq_true.1 (validB_iff.1 h).2.2 t ht

theorem ways_lt {n : Nat} {T : List (List Int)} (h : T.all (triB n) = true) : ∀ p ∈ tways T, p.1 < n ∧ p.2 < n ∧ p.1 ≠ p.2 := by
  intro p hp
  obtain ⟨t, ht, hp⟩ := List.mem_flatMap.1 hp
  obtain ⟨a, b, c, rfl, ha, hb, hc, e1, e2, e3⟩ := tri_natE (List.all_eq_true.1 h t ht)
  rw [ways3_nat] at hp
  simp only [List.mem_cons, List.not_mem_nil, or_false] at hp
  rcases hp with rfl | rfl | rfl
  · exact ⟨ha, hb, e1⟩
  · exact ⟨hb, hc, e2⟩
  · exact ⟨hc, ha, fun h => e3 h.symm⟩

/-- Whether some triangle has two places. -/
def isE (T : List (List Int)) (a b : Nat) : Bool := T.any fun t => t.contains (a : Int) && t.contains (b : Int)
theorem mem_edges {n : Nat} {T : List (List Int)} (h : T.all (triB n) = true) {a b : Nat} (hab : a < b) : (a, b) ∈ (tways T).map edgeN ↔ isE T a b = true := by
  unfold isE tways
  rw [List.any_eq_true, List.map_flatMap, List.mem_flatMap]
  constructor
  · rintro ⟨t, ht, hp⟩
    refine ⟨t, ht, ?_⟩
    obtain ⟨x, y, z, rfl, _⟩ := tri_natE (List.all_eq_true.1 h t ht)
    rw [ways3_nat] at hp
    simp only [List.map_cons, List.map_nil, edgeN, List.mem_cons, List.not_mem_nil, or_false, Prod.mk.injEq] at hp
    simp only [List.contains_cons, List.contains_nil, Bool.or_false, Bool.and_eq_true, Bool.or_eq_true, beq_iff_eq]
    omega
  · rintro ⟨t, ht, hp⟩
    refine ⟨t, ht, ?_⟩
    obtain ⟨x, y, z, rfl, _⟩ := tri_natE (List.all_eq_true.1 h t ht)
    rw [ways3_nat]
    simp only [List.contains_cons, List.contains_nil, Bool.or_false, Bool.and_eq_true, Bool.or_eq_true, beq_iff_eq] at hp
    simp only [List.map_cons, List.map_nil, edgeN, List.mem_cons, List.not_mem_nil, or_false, Prod.mk.injEq]
    omega

/-- The edges from a on, and all. -/
def edgesA (n : Nat) (T : List (List Int)) (a : Nat) : List (List Int) := ((List.range n).filter fun b => decide (a < b) && isE T a b).map fun b : Nat => ([(a : Int), (b : Int)] : List Int)
def edgesL (n : Nat) (T : List (List Int)) : List (List Int) := (List.range n).flatMap (edgesA n T)
/-- The same, as pairs of numbers. -/
def edgesP (n : Nat) (T : List (List Int)) : List (Nat × Nat) := (List.range n).flatMap fun a => ((List.range n).filter fun b => decide (a < b) && isE T a b).map fun b => (a, b)
theorem edgesL_P (n : Nat) (T : List (List Int)) : edgesL n T = (edgesP n T).map fun p => [(p.1 : Int), (p.2 : Int)] := by
  unfold edgesL edgesP edgesA
  rw [List.map_flatMap]
  congr 1
  funext a
  rw [List.map_map]
  rfl
theorem mem_edgesP {n : Nat} {T : List (List Int)} {p : Nat × Nat} : p ∈ edgesP n T ↔ p.1 < n ∧ p.2 < n ∧ p.1 < p.2 ∧ isE T p.1 p.2 = true := by
  unfold edgesP
  rw [List.mem_flatMap]
  constructor
  · rintro ⟨a, ha, hp⟩
    rw [List.mem_map] at hp
    obtain ⟨b, hb, rfl⟩ := hp
    rw [List.mem_filter] at hb
    simp at ha hb
    exact ⟨ha, hb.1, hb.2.1, hb.2.2⟩
  · rintro ⟨h1, h2, h3, h4⟩
    refine ⟨p.1, by simp [h1], ?_⟩
    rw [List.mem_map]
    exact ⟨p.2, by rw [List.mem_filter]; simp [h2, h3, h4], rfl⟩
theorem nodup_range (n : Nat) : (List.range n).Nodup := List.nodup_range
theorem edgesP_nodup (n : Nat) (T : List (List Int)) : (edgesP n T).Nodup := by
  unfold edgesP
  rw [List.nodup_iff_pairwise_ne, List.pairwise_flatMap]
  refine ⟨fun a _ => ?_, ?_⟩
  · rw [List.pairwise_map]
    refine List.Pairwise.imp ?_ (List.nodup_iff_pairwise_ne.1 ((nodup_range n).filter _))
    intro x y h e
    exact h (Prod.mk.inj e).2
  · refine List.Pairwise.imp ?_ (List.nodup_iff_pairwise_ne.1 (nodup_range n))
    intro a b hab p hp q hq e
    rw [List.mem_map] at hp hq
    obtain ⟨x, _, rfl⟩ := hp
    obtain ⟨y, _, rfl⟩ := hq
    exact hab (Prod.mk.inj e).1
theorem edges_iff {n : Nat} {T : List (List Int)} (h : T.all (triB n) = true) (p : Nat × Nat) : p ∈ edgesP n T ↔ p ∈ (tways T).map edgeN := by
  rw [mem_edgesP]
  constructor
  · rintro ⟨h1, h2, h3, h4⟩
    exact (mem_edges h h3).2 h4
  · intro hp
    obtain ⟨q, hq, rfl⟩ := List.mem_map.1 hp
    obtain ⟨h1, h2, h3⟩ := ways_lt h q hq
    have h4 : (edgeN q).1 < (edgeN q).2 := by unfold edgeN; simp only; omega
    exact ⟨by unfold edgeN; simp only; omega, by unfold edgeN; simp only; omega, h4, (mem_edges h h4).1 hp⟩
theorem edgesP_len {n : Nat} (hn : n ≤ 64) (T : List (List Int)) : (edgesP n T).length ≤ 4096 := by
  unfold edgesP
  rw [List.length_flatMap]
  have h1 : ∀ l : List Nat, (∀ x ∈ l, x ≤ 64) → l.sum ≤ l.length * 64 := by
    intro l
    induction l with
    | nil => intro _; simp
    | cons x r ih => intro h; have := h x (by simp); have := ih (fun y hy => h y (by simp [hy])); simp only [List.sum_cons, List.length_cons]; omega
  have := h1 ((List.range n).map fun a => (((List.range n).filter fun b => decide (a < b) && isE T a b).map fun b => (a, b)).length) (by
    intro x hx
    obtain ⟨a, _, rfl⟩ := List.mem_map.1 hx
    rw [List.length_map]
    have := List.length_filter_le (fun b => decide (a < b) && isE T a b) (List.range n)
    simp at this
    simp
    omega)
  rw [List.length_map, List.length_range] at this
  have : n * 64 ≤ 4096 := by omega
  omega
end Go.Proofs.Ytepilofcionekaa.Msh
namespace Go.Proofs.Ytepilofcionekaa.Msh
open Fl Go.RowKit Go.Proofs.YtepilofcionekaaW.PrintWords Go.Proofs.Ytepilofcionekaa.PMesh
set_option linter.unusedVariables false

theorem min_f (p q : Nat) : spec_l00Min.f (p : Int) (q : Int) = some ((min p q : Nat) : Int) := by
  unfold spec_l00Min.f
  split <;> (congr 1; omega)
theorem max_f (p q : Nat) : spec_l00Max.f (p : Int) (q : Int) = some ((max p q : Nat) : Int) := by
  unfold spec_l00Max.f
  split <;> (congr 1; omega)
theorem idx_lt {n p q : Nat} (hp : p < n) (hq : q < n) : p * n + q < n * n := by
  have := Nat.mul_le_mul_right n (show p + 1 ≤ n from hp)
  rw [Nat.succ_mul] at this
  omega
theorem idx_inj {n a b p q : Nat} (hb : b < n) (hq : q < n) (h : a * n + b = p * n + q) : a = p ∧ b = q := by
  have h1 : (a * n + b) / n = a := by rw [Nat.add_comm, Nat.add_mul_div_right _ _ (by omega), Nat.div_eq_of_lt hb, Nat.zero_add]
  have h2 : (p * n + q) / n = p := by rw [Nat.add_comm, Nat.add_mul_div_right _ _ (by omega), Nat.div_eq_of_lt hq, Nat.zero_add]
  rw [h, h2] at h1
  subst h1
  exact ⟨rfl, by omega⟩
theorem idx_wrap {n p q : Nat} (hn : n ≤ 64) (hp : p < n) (hq : q < n) : wrap64 (wrap64 ((p : Int) * (n : Int)) + (q : Int)) = ((p * n + q : Nat) : Int) := by
  have h1 := idx_lt hp hq
  have h2 : n * n ≤ 4096 := by have := Nat.mul_le_mul hn hn; omega
  have e : (p : Int) * (n : Int) = ((p * n : Nat) : Int) := by rw [Int.natCast_mul]
  rw [e]
  generalize p * n = x at *
  generalize n * n = y at *
  have h3 : wrap64 (x : Int) = (x : Int) := wrap_fit (by omega) (by omega)
  rw [h3, wrap_fit (by omega) (by omega), Int.natCast_add]

/-- Pairs that are marked in a table. -/
def Seen (n : Nat) (ps : List (Nat × Nat)) (s : List Bool) : Prop := s.length = n * n ∧ ∀ a b, a < n → b < n → s.getD (a * n + b) false = decide ((a, b) ∈ ps)
theorem Seen.start (n : Nat) : Seen n [] (List.replicate (n * n) false) := ⟨by simp, fun a b ha hb => by
  have := idx_lt ha hb
  rw [List.getD_eq_getElem?_getD, List.getElem?_replicate]
  simp [this]⟩
theorem Seen.step {n : Nat} {ps : List (Nat × Nat)} {s : List Bool} (h : Seen n ps s) {p q : Nat} (hp : p < n) (hq : q < n) : Seen n (ps ++ [(p, q)]) (s.set (p * n + q) true) := by
  refine ⟨by rw [List.length_set]; exact h.1, fun a b ha hb => ?_⟩
  have hl := idx_lt hp hq
  rw [← h.1] at hl
  rw [List.getD_eq_getElem?_getD]
  by_cases e : p * n + q = a * n + b
  · obtain ⟨rfl, rfl⟩ := idx_inj hq hb e
    rw [List.getElem?_set_self hl]
    simp
  · rw [List.getElem?_set_ne e, ← List.getD_eq_getElem?_getD, h.2 a b ha hb, decide_eq_decide]
    constructor
    · intro hm; simp [hm]
    · intro hm
      rcases List.mem_append.1 hm with hm | hm
      · exact hm
      · simp at hm
        exact absurd (by rw [hm.1, hm.2]) e

section
variable (Q : List S42) (T : List (List Int))
theorem e1_step (k n : Nat) (hn : n ≤ 64) (s : List Bool) (hl : s.length = n * n) (i : Int) (t : List Int) (j j1 : Int) (p q : Nat) (hp : p < n) (hq : q < n) (h0 : 0 ≤ j) (h3 : j < 3) (ht : t.length = 3) (hj : Int.tmod (wrap64 (j + 1)) 3 = j1) (hj0 : 0 ≤ j1) (hj3 : j1 < 3) (e1 : rd t j = (p : Int)) (e2 : rd t j1 = (q : Int)) :
    spec_l02Edges.l1 (k + 1) (n : Int) s i t j Q T = spec_l02Edges.l1 k (n : Int) (s.set (min p q * n + max p q) true) i t (wrap64 (j + 1)) Q T := by
  have hm : min p q < n := by omega
  have hM : max p q < n := by omega
  simp only [spec_l02Edges.l1]
  rw [if_pos h3, if_pos h0, if_pos (by rw [ht]; omega), hj, if_pos hj0, if_pos (by rw [ht]; omega), e1, e2, min_f, max_f]
  have hx := idx_lt hm hM
  rw [Option.bind_some, Option.bind_some, idx_wrap hn hm hM, if_pos (Int.natCast_nonneg _), if_pos (by rw [hl]; exact Int.ofNat_lt.2 hx), Int.toNat_natCast]

theorem w01 : wrap64 (0 + 1) = 1 := by rw [wrap_fit (by omega) (by omega)]; rfl
theorem w12 : wrap64 (1 + 1) = 2 := by rw [wrap_fit (by omega) (by omega)]; rfl
theorem w23 : wrap64 (2 + 1) = 3 := by rw [wrap_fit (by omega) (by omega)]; rfl
theorem e1_all (k n : Nat) (hn : n ≤ 64) (s : List Bool) (ps : List (Nat × Nat)) (hs : Seen n ps s) (i : Int) (a b c : Nat) (ha : a < n) (hb : b < n) (hc : c < n) :
    ∃ s', Seen n (ps ++ [edgeN (a, b), edgeN (b, c), edgeN (c, a)]) s' ∧ spec_l02Edges.l1 (k + 4) (n : Int) s i [(a : Int), (b : Int), (c : Int)] 0 Q T = spec_l02Edges.l0 k (n : Int) s' (wrap64 (i + 1)) Q T := by
  have s1 := hs.step (p := min a b) (q := max a b) (by omega) (by omega)
  have s2 := s1.step (p := min b c) (q := max b c) (by omega) (by omega)
  have s3 := s2.step (p := min c a) (q := max c a) (by omega) (by omega)
  refine ⟨_, by simpa [edgeN] using s3, ?_⟩
  rw [e1_step Q T (k + 3) n hn s hs.1 i _ 0 1 a b ha hb (by omega) (by omega) rfl (by rw [w01]; rfl) (by omega) (by omega) rfl rfl, w01]
  rw [e1_step Q T (k + 2) n hn _ s1.1 i _ 1 2 b c hb hc (by omega) (by omega) rfl (by rw [w12]; rfl) (by omega) (by omega) rfl rfl, w12]
  rw [e1_step Q T (k + 1) n hn _ s2.1 i _ 2 0 c a hc ha (by omega) (by omega) rfl (by rw [w23]; rfl) (by omega) (by omega) rfl rfl, w23]
  simp only [spec_l02Edges.l1]
  rw [if_neg (by omega)]

theorem e0_loop (n : Nat) (hn : n ≤ 64) (hT : T.length ≤ 128) (ht : T.all (triB n) = true) (d : Nat) : ∀ (k i : Nat) (s : List Bool), i ≤ T.length → T.length - i = d → Seen n ((tways (T.take i)).map edgeN) s → 5 * d + 1 < k →
    ∃ s' k', Seen n ((tways T).map edgeN) s' ∧ k' + 5 * d + 1 = k ∧ spec_l02Edges.l0 k (n : Int) s (i : Int) Q T = spec_l02Edges.l2 k' (n : Int) s' [] 0 := by
  induction d with
  | zero =>
    intro k i s hi hd hs hk
    obtain ⟨k, rfl⟩ : ∃ j, k = j + 1 := ⟨k - 1, by omega⟩
    rw [List.take_of_length_le (by omega)] at hs
    refine ⟨s, k, hs, by omega, ?_⟩
    simp only [spec_l02Edges.l0]
    rw [if_neg (by omega)]
  | succ d ih =>
    intro k i s hi hd hs hk
    obtain ⟨k, rfl⟩ : ∃ j, k = j + 5 := ⟨k - 5, by omega⟩
    have hil : i < T.length := by omega
    obtain ⟨a, b, c, et, ha, hb, hc, _⟩ := tri_natE (List.all_eq_true.1 ht T[i] (List.getElem_mem hil))
    obtain ⟨s1, hs1, e1⟩ := e1_all Q T k n hn s _ hs (i : Int) a b c ha hb hc
    simp only [spec_l02Edges.l0]
    rw [if_pos (by omega), if_pos (by omega), rdL T i hil, et, e1, up i (by omega)]
    have hw : (tways (T.take (i + 1))).map edgeN = (tways (T.take i)).map edgeN ++ [edgeN (a, b), edgeN (b, c), edgeN (c, a)] := by
      rw [List.take_succ_eq_append_getElem hil, et, ways_snoc, ways3_nat, List.map_append]
      rfl
    obtain ⟨s', k', h1, h2, h3⟩ := ih k (i + 1) s1 (by omega) (by omega) (by rw [hw]; exact hs1) (by omega)
    exact ⟨s', k', h1, by omega, h3⟩

/-- The edges from a on to places before b. -/
def edgesB (T : List (List Int)) (a b : Nat) : List (List Int) := ((List.range b).filter fun b => decide (a < b) && isE T a b).map fun b : Nat => ([(a : Int), (b : Int)] : List Int)
theorem edgesB_all (n : Nat) (a : Nat) : edgesB T a n = edgesA n T a := rfl
theorem edgesB_start (a : Nat) : edgesB T a (a + 1) = [] := by
  unfold edgesB
  rw [List.map_eq_nil_iff, List.filter_eq_nil_iff]
  intro x hx
  simp at hx
  simp
  omega
theorem edgesB_succ (a b : Nat) (h : a < b) : edgesB T a (b + 1) = edgesB T a b ++ (if isE T a b = true then [[(a : Int), (b : Int)]] else []) := by
  unfold edgesB
  rw [List.range_succ, List.filter_append, List.map_append]
  congr 1
  by_cases he : isE T a b = true
  · simp [he, h]
  · simp [he]

theorem e3_loop (n : Nat) (hn : n ≤ 64) (s : List Bool) (hl : s.length = n * n) (hs : ∀ a b, a < n → b < n → a < b → s.getD (a * n + b) false = isE T a b) (a : Nat) (ha : a < n) (out : List (List Int)) (ho : out.length ≤ a * 64) (d : Nat) :
    ∀ (k b : Nat), a < b → b ≤ n → n - b = d → d + 1 < k → ∃ k', k' + d + 1 = k ∧ spec_l02Edges.l3 k (n : Int) s (out ++ edgesB T a b) (a : Int) (b : Int) = spec_l02Edges.l2 k' (n : Int) s (out ++ edgesA n T a) (wrap64 ((a : Int) + 1)) := by
  induction d with
  | zero =>
    intro k b hab hb hd hk
    obtain ⟨k, rfl⟩ : ∃ j, k = j + 1 := ⟨k - 1, by omega⟩
    obtain rfl : b = n := by omega
    refine ⟨k, by omega, ?_⟩
    simp only [spec_l02Edges.l3]
    rw [if_neg (by omega)]
    rfl
  | succ d ih =>
    intro k b hab hb hd hk
    obtain ⟨k, rfl⟩ : ∃ j, k = j + 1 := ⟨k - 1, by omega⟩
    have hbn : b < n := by omega
    have hidx := idx_lt ha hbn
    obtain ⟨k', hk', e⟩ := ih k (b + 1) (by omega) (by omega) (by omega) (by omega)
    refine ⟨k', by omega, ?_⟩
    rw [← e, edgesB_succ T a b hab]
    have hlen : (edgesB T a b).length ≤ b := by unfold edgesB; rw [List.length_map]; have := List.length_filter_le (fun x => decide (a < x) && isE T a x) (List.range b); simpa using this
    simp only [spec_l02Edges.l3]
    rw [if_pos (by omega), idx_wrap hn ha hbn, if_pos (Int.natCast_nonneg _), if_pos (by rw [hl]; exact Int.ofNat_lt.2 hidx)]
    have hr : rdOf false s ((a * n + b : Nat) : Int) = isE T a b := by unfold rdOf; rw [Int.toNat_natCast]; exact hs a b ha hbn hab
    rw [hr, up b (by omega)]
    by_cases he : isE T a b = true
    · rw [if_pos he, if_pos he, if_pos (by rw [List.length_append]; omega), List.append_assoc]
    · rw [if_neg he, if_neg he, List.append_nil]

theorem e2_loop (n : Nat) (hn : n ≤ 64) (s : List Bool) (hl : s.length = n * n) (hs : ∀ a b, a < n → b < n → a < b → s.getD (a * n + b) false = isE T a b) (d : Nat) :
    ∀ (k a : Nat), a ≤ n → n - a = d → d * 70 + 1 < k → spec_l02Edges.l2 k (n : Int) s ((List.range a).flatMap (edgesA n T)) (a : Int) = some (edgesL n T) := by
  induction d with
  | zero =>
    intro k a ha hd hk
    obtain ⟨k, rfl⟩ : ∃ j, k = j + 1 := ⟨k - 1, by omega⟩
    obtain rfl : a = n := by omega
    simp only [spec_l02Edges.l2]
    rw [if_neg (by omega)]
    rfl
  | succ d ih =>
    intro k a ha hd hk
    obtain ⟨k, rfl⟩ : ∃ j, k = j + 1 := ⟨k - 1, by omega⟩
    have han : a < n := by omega
    have hlen : ((List.range a).flatMap (edgesA n T)).length ≤ a * 64 := by
      have key : ∀ m : Nat, ((List.range m).flatMap (edgesA n T)).length ≤ m * 64 := by
        intro m
        induction m with
        | zero => simp
        | succ m ih =>
          rw [List.range_succ, List.flatMap_append, List.length_append]
          have : (edgesA n T m).length ≤ 64 := by unfold edgesA; rw [List.length_map]; have := List.length_filter_le (fun x => decide (m < x) && isE T m x) (List.range n); simp at this; omega
          rw [show List.flatMap (edgesA n T) [m] = edgesA n T m by simp]
          omega
      exact key a
    simp only [spec_l02Edges.l2]
    rw [if_pos (by omega), up a (by omega)]
    obtain ⟨k', hk', e⟩ := e3_loop T n hn s hl hs a han _ hlen (n - (a + 1)) k (a + 1) (by omega) (by omega) rfl (by omega)
    rw [edgesB_start, List.append_nil] at e
    rw [e, up a (by omega)]
    have := ih k' (a + 1) (by omega) (by omega) (by omega)
    rw [List.range_succ, List.flatMap_append] at this
    simpa using this
end

/-- What l02Edges computes of a valid mesh. -/
theorem edges_f (Q : List S42) (T : List (List Int)) (hv : validB Q.length T = true) : spec_l02Edges.f 10000 Q T = some (edgesL Q.length T) := by
  obtain ⟨hn, hT, ht⟩ := validB_iff.1 hv
  have hnn : Q.length * Q.length ≤ 4096 := by have := Nat.mul_le_mul hn hn; omega
  have e : wrap64 ((Q.length : Int) * (Q.length : Int)) = ((Q.length * Q.length : Nat) : Int) := by rw [← Int.natCast_mul]; exact wrap_fit (by omega) (by omega)
  unfold spec_l02Edges.f
  rw [e, if_pos (by omega), Int.toNat_natCast, if_pos (by omega)]
  obtain ⟨s, k', h1, h2, h3⟩ := e0_loop Q T Q.length hn hT ht T.length 10000 0 _ (by omega) (by omega) (by simpa [tways] using Seen.start Q.length) (by omega)
  rw [show ((0 : Nat) : Int) = 0 from rfl] at h3
  rw [h3]
  have hs : ∀ a b, a < Q.length → b < Q.length → a < b → s.getD (a * Q.length + b) false = isE T a b := by
    intro a b ha hb hab
    rw [h1.2 a b ha hb]
    have := mem_edges ht hab
    by_cases he : isE T a b = true
    · rw [he, decide_eq_true (this.2 he)]
    · rw [Bool.eq_false_iff.2 he]
      exact decide_eq_false (fun h => he (this.1 h))
  have := e2_loop T Q.length hn s h1.1 hs Q.length k' 0 (by omega) (by omega) (by omega)
  rw [show ((0 : Nat) : Int) = 0 from rfl] at this
  simpa using this
end Go.Proofs.Ytepilofcionekaa.Msh
namespace Go.Proofs.Ytepilofcionekaa.Msh
open Fl Go.RowKit Go.Proofs.YtepilofcionekaaW.PrintWords Go.Proofs.Ytepilofcionekaa.PMesh Pie
set_option linter.unusedVariables false

/-- A numbering as a list. -/
def grp (n : Nat) (f : Nat → Nat) : List Int := (List.range n).map fun i => (f i : Int)
theorem grp_len (n : Nat) (f : Nat → Nat) : (grp n f).length = n := by simp [grp]
theorem grp_rd (n : Nat) (f : Nat → Nat) (i : Nat) (h : i < n) : rd (grp n f) (i : Int) = (f i : Int) := by
  rw [rdI _ i (by rw [grp_len]; exact h)]
  simp [grp]
theorem grp_set (n : Nat) (f : Nat → Nat) (i v : Nat) (h : i < n) : (grp n f).set i (v : Int) = grp n (fun j => if j = i then v else f j) := by
  apply List.ext_getElem
  · simp [grp]
  · intro j h1 h2
    simp only [grp, List.length_set, List.length_map, List.length_range] at h1
    by_cases e : i = j
    · subst e; simp [grp]
    · have e' : ¬ j = i := fun h => e h.symm
      simp [grp, e, e']
theorem grp_congr (n : Nat) (f g : Nat → Nat) (h : ∀ i, i < n → f i = g i) : grp n f = grp n g := by
  unfold grp
  refine List.map_congr_left (fun i hi => ?_)
  rw [h i (by simpa using hi)]

/-- The first places joined. -/
def joinP (r : Nat → Nat) (a b i j : Nat) : Nat := if j < i then mrg r a b j else r j
theorem joinP_zero (n : Nat) (r : Nat → Nat) (a b : Nat) : grp n (joinP r a b 0) = grp n r := grp_congr n _ _ (fun j _ => by unfold joinP; rw [if_neg (by omega)])
theorem joinP_all (n : Nat) (r : Nat → Nat) (a b : Nat) : grp n (joinP r a b n) = grp n (mrg r a b) := grp_congr n _ _ (fun j hj => by unfold joinP; rw [if_pos (by omega)])
theorem joinP_at (r : Nat → Nat) (a b i : Nat) : joinP r a b i i = r i := by unfold joinP; rw [if_neg (by omega)]
theorem joinP_hit (n : Nat) (r : Nat → Nat) (a b i : Nat) (hi : i < n) (h : r i = max (r a) (r b)) : (grp n (joinP r a b i)).set i ((min (r a) (r b) : Nat) : Int) = grp n (joinP r a b (i + 1)) := by
  rw [grp_set n _ i _ hi]
  refine grp_congr n _ _ (fun j hj => ?_)
  unfold joinP
  by_cases hji : j = i
  · subst hji
    rw [if_pos rfl, if_pos (by omega)]
    unfold mrg
    rw [if_pos h]
  · rw [if_neg hji]
    by_cases hlt : j < i
    · rw [if_pos hlt, if_pos (by omega)]
    · rw [if_neg hlt, if_neg (by omega)]
theorem joinP_miss (n : Nat) (r : Nat → Nat) (a b i : Nat) (h : ¬ r i = max (r a) (r b)) : grp n (joinP r a b i) = grp n (joinP r a b (i + 1)) := by
  refine grp_congr n _ _ (fun j hj => ?_)
  unfold joinP
  by_cases hji : j = i
  · subst hji
    rw [if_neg (by omega), if_pos (by omega)]
    unfold mrg
    rw [if_neg h]
  · by_cases hlt : j < i
    · rw [if_pos hlt, if_pos (by omega)]
    · rw [if_neg hlt, if_neg (by omega)]
theorem grp_snoc (i : Nat) : grp i (fun j => j) ++ [(i : Int)] = grp (i + 1) (fun j => j) := by simp [grp, List.range_succ]
theorem set_append {α : Type} (l : List α) (m : Nat) (z v : α) (i : Nat) (h : l.length = i) (hm : 0 < m) : (l ++ List.replicate m z).set i v = (l ++ [v]) ++ List.replicate (m - 1) z := by
  obtain ⟨m, rfl⟩ : ∃ j, m = j + 1 := ⟨m - 1, by omega⟩
  rw [List.set_append, if_neg (by omega), h, Nat.sub_self, List.replicate_succ, List.set_cons_zero, List.append_assoc]
  rfl
/-- The table of numbers, its first places filled. -/
def numT (r : Nat → Nat) (n i : Nat) : List Int := (numL r i).1 ++ List.replicate (n - i) 0
theorem numT_len (r : Nat → Nat) (n i : Nat) (h : i ≤ n) : (numT r n i).length = n := by unfold numT; rw [List.length_append, numL_len, List.length_replicate]; omega
theorem numT_zero (r : Nat → Nat) (n : Nat) : numT r n 0 = List.replicate n 0 := by unfold numT; rfl
theorem numT_all (r : Nat → Nat) (n : Nat) : numT r n n = (numL r n).1 := by unfold numT; simp
theorem numT_new (r : Nat → Nat) (n i : Nat) (hi : i < n) (h : r i = i) : (numT r n i).set i ((numL r i).2 : Int) = numT r n (i + 1) ∧ (numL r (i + 1)).2 = (numL r i).2 + 1 := by
  unfold numT
  rw [set_append _ _ _ _ _ (numL_len r i) (by omega), numL, if_pos h]
  exact ⟨by rw [show n - (i + 1) = n - i - 1 by omega], rfl⟩
theorem numT_old (r : Nat → Nat) (n i : Nat) (hi : i < n) (h : ¬ r i = i) : (numT r n i).set i ((numL r i).1.getD (r i) 0) = numT r n (i + 1) ∧ (numL r (i + 1)).2 = (numL r i).2 := by
  unfold numT
  rw [set_append _ _ _ _ _ (numL_len r i) (by omega), numL, if_neg h]
  exact ⟨by rw [show n - (i + 1) = n - i - 1 by omega], rfl⟩
theorem numT_rd (r : Nat → Nat) (n i x : Nat) (hx : x < i) : rdOf (0 : Int) (numT r n i) (x : Int) = (numL r i).1.getD x 0 := by
  have hl := numL_len r i
  unfold rdOf numT
  rw [Int.toNat_natCast, List.getD_eq_getElem?_getD, List.getElem?_append_left (by omega), ← List.getD_eq_getElem?_getD]

theorem conn_tri (n : Nat) (T : List (List Int)) (ht : T.all (triB n) = true) : (∀ p ∈ edgesP n T, Conn (pairsOf T) p.1 p.2) ∧ (∀ p ∈ pairsOf T, Conn (edgesP n T) p.1 p.2) := by
  constructor
  · intro p hp
    obtain ⟨q, hq, rfl⟩ := List.mem_map.1 ((edges_iff ht p).1 hp)
    obtain ⟨t, htm, hq⟩ := List.mem_flatMap.1 hq
    obtain ⟨a, b, c, rfl, _⟩ := tri_natE (List.all_eq_true.1 ht t htm)
    have m1 : Conn (pairsOf T) a b := .pair (List.mem_flatMap.2 ⟨_, htm, by simp [rd3_0, rd3_1, rd3_2]⟩)
    have m2 : Conn (pairsOf T) a c := .pair (List.mem_flatMap.2 ⟨_, htm, by simp [rd3_0, rd3_1, rd3_2]⟩)
    have key : ∀ x y, Conn (pairsOf T) x y → Conn (pairsOf T) (edgeN (x, y)).1 (edgeN (x, y)).2 := by
      intro x y h
      unfold edgeN
      rcases Nat.le_total x y with h' | h'
      · simp only [Nat.min_eq_left h', Nat.max_eq_right h']; exact h
      · simp only [Nat.min_eq_right h', Nat.max_eq_left h']; exact h.symm
    rw [ways3_nat] at hq
    simp only [List.mem_cons, List.not_mem_nil, or_false] at hq
    rcases hq with rfl | rfl | rfl
    · exact key _ _ m1
    · exact key _ _ (m1.symm.trans m2)
    · exact key _ _ m2.symm
  · intro p hp
    obtain ⟨t, htm, hq⟩ := List.mem_flatMap.1 hp
    obtain ⟨a, b, c, rfl, _⟩ := tri_natE (List.all_eq_true.1 ht t htm)
    have key : ∀ x y, (x, y) ∈ tways T → Conn (edgesP n T) x y := by
      intro x y h
      have hc : Conn (edgesP n T) (edgeN (x, y)).1 (edgeN (x, y)).2 := .pair ((edges_iff ht _).2 (List.mem_map.2 ⟨_, h, rfl⟩))
      unfold edgeN at hc
      rcases Nat.le_total x y with h' | h'
      · simp only [Nat.min_eq_left h', Nat.max_eq_right h'] at hc; exact hc
      · simp only [Nat.min_eq_right h', Nat.max_eq_left h'] at hc; exact hc.symm
    have w1 : (a, b) ∈ tways T := List.mem_flatMap.2 ⟨_, htm, by rw [ways3_nat]; simp⟩
    have w3 : (c, a) ∈ tways T := List.mem_flatMap.2 ⟨_, htm, by rw [ways3_nat]; simp⟩
    simp only [rd3_0, rd3_1, rd3_2, Int.toNat_natCast, List.mem_cons, List.not_mem_nil, or_false] at hq
    rcases hq with rfl | rfl
    · exact key _ _ w1
    · exact (key _ _ w3).symm

theorem pie_canon (n : Nat) (T : List (List Int)) (hv : validB n T = true) {r : Nat → Nat} (h : Lab (edgesP n T) r) : pieR n T = ((numL r n).1, ((numL r n).2 : Int), true) := by
  obtain ⟨_, _, ht⟩ := validB_iff.1 hv
  have e : r = root (pathL n (pairsOf T)) := h.unique (pathL_ok n (pairsOf T) (pairs_lt hv)).lab (conn_tri n T ht).1 (conn_tri n T ht).2
  unfold pieR
  rw [if_pos hv, ← e]
theorem pieR_small (n : Nat) (T : List (List Int)) : (pieR n T).1.length ≤ 1048576 := by
  unfold pieR
  split
  · rename_i hv
    obtain ⟨hn, _⟩ := validB_iff.1 hv
    show (numL _ n).1.length ≤ _
    rw [numL_len]
    omega
  · exact Nat.zero_le _
end Go.Proofs.Ytepilofcionekaa.Msh
namespace Go.Proofs.Ytepilofcionekaa
open Fl Go.RowKit Go.Proofs.YtepilofcionekaaW.PrintWords Go.Proofs.YtepilofcionekaaW.PrintLast Go.Proofs.YtepilofcionekaaW.PrintMore Go.Proofs.Ytepilofcionekaa.PMesh Msh
set_option linter.unusedVariables false

/-- A mesh's variable. -/
abbrev VarN (w0 W : World) (g : Nat) (Q : List S42) (T : List (List Int)) : Prop := IsS27 w0 W g Q T

theorem edges_step (Q : List S42) (T : List (List Int)) (hv : validB Q.length T = true) (g : Nat) (w0 W : World) (hI : VarN w0 W g Q T) (hB : Below w0.heap.size w0 W) :
    Calls Try.prog 75 #[.pointer (some ⟨g, 0, none⟩)] W fun e w' => ∃ v : Value, e = .returned v ∧ Hid (Kd.S (Kd.slice 2 (Kd.int .i64)) 56 w' W.heap.size (fun _ => True) v (edgesL Q.length T)) ∧ Hid (VarN w0 w' g Q T) ∧ Hid (Below w0.heap.size w0 w') := by
  refine (spec_l02Edges.calls 10000 g Q T _ w0 W hI hB (edges_f Q T hv)).mono ?_
  rintro e w' ⟨v, rfl, h0, h1, h2, _⟩
  exact ⟨v, rfl, Lib.hid h0, Lib.hid h1, Lib.hid h2⟩

theorem atN_step (Q : List S42) (T : List (List Int)) (hv : validB Q.length T = true) (a b : Int) (g : Nat) (w0 W : World) (hI : VarN w0 W g Q T) (hB : Below w0.heap.size w0 W) :
    Calls Try.prog 103 #[.pointer (some ⟨g, 0, none⟩), .int .i64 a, .int .i64 b] W fun e w' => ∃ v : Value, e = .returned v ∧ Hid (Kd.R (Kd.int .i64) 2 w' W.heap.size (fun _ => True) v (withL [a, b] 0 T)) ∧ Hid (VarN w0 w' g Q T) ∧ Hid (Below w0.heap.size w0 w') ∧ Hid (KeepBut W w' g none) := by
  refine (spec_l02At.calls 200 g Q T a b _ w0 W hI hB (at_f Q T hv a b)).mono ?_
  rintro e w' ⟨v, rfl, h0, h1, h2, h3⟩
  exact ⟨v, rfl, Lib.hid h0, Lib.hid h1, Lib.hid h2, Lib.hid h3⟩

theorem edgesK_step (Q : List S42) (T : List (List Int)) (hv : validB Q.length T = true) (g : Nat) (w0 W : World) (hI : VarN w0 W g Q T) (hB : Below w0.heap.size w0 W) :
    Calls Try.prog 75 #[.pointer (some ⟨g, 0, none⟩)] W fun e w' => ∃ v : Value, e = .returned v ∧ Hid (Kd.S (Kd.slice 2 (Kd.int .i64)) 56 w' W.heap.size (fun _ => True) v (edgesL Q.length T)) ∧ Hid (VarN w0 w' g Q T) ∧ Hid (Below w0.heap.size w0 w') ∧ Hid (KeepBut W w' g none) := by
  refine (spec_l02Edges.calls 10000 g Q T _ w0 W hI hB (edges_f Q T hv)).mono ?_
  rintro e w' ⟨v, rfl, h0, h1, h2, h3⟩
  exact ⟨v, rfl, Lib.hid h0, Lib.hid h1, Lib.hid h2, Lib.hid h3⟩

end Go.Proofs.Ytepilofcionekaa
namespace Go.Proofs.Ytepilofcionekaa
open Fl Go.RowKit Go.Proofs.YtepilofcionekaaW.PrintWords Go.Proofs.YtepilofcionekaaW.PrintLast Go.Proofs.YtepilofcionekaaW.PrintMore Go.Proofs.Ytepilofcionekaa.PMesh Msh Pie
set_option linter.unusedVariables false
set_option linter.unusedSimpArgs false

set_option maxHeartbeats 4000000 in
set_option maxRecDepth 100000 in
theorem spec_PiecesOf (A : Option Addr) (c : Nat) (Q : List S42) (B : Option Addr) (e : Nat) (T : List (List Int)) (w : World) (hQ : Kd.C k42 w A Q.length Q) (hT : Kd.C (Kd.slice 2 (Kd.int .i64)) w B T.length T) :
    Calls Try.prog 28 #[.agg #[.slice A Q.length c, .slice B T.length e]] w (AnsP w (pieR Q.length T)) := by
  have hX0 := BoxAt.new w 27 (.slice A Q.length c) (.slice B T.length e)
  have hc0 := hX0.c0
  have HX0 := Lib.hid hX0
  have HI := Lib.hid (IsS27.new w w A c B e Q T (Below.refl _ _) hQ hT)
  have HB0 := Lib.hid (Below.alloc (Below.refl w.heap.size w) (Nat.le_refl _) (.cells #[.slice A Q.length c, .slice B T.length e] 27))
  clear hQ hT hX0
  have HIS := Lib.hid (fun (W : World) (hI : VarN w W w.heap.size Q T) (hB : Below w.heap.size w W) => spec_l02Is.calls 201 w.heap.size Q T _ w W hI hB (is_f Q T 201 (by omega)))
  by_cases hv : validB Q.length T = true
  · obtain ⟨hn, ht, hta⟩ := validB_iff.1 hv
    have HCA := Lib.hid (fun (r : Nat → Nat) (h : Lab (edgesP Q.length T) r) => pie_canon Q.length T hv h)
    have HEL : Hid (edgesL Q.length T = (edgesP Q.length T).map fun p => [(p.1 : Int), (p.2 : Int)]) := Lib.hid (edgesL_P Q.length T)
    obtain ⟨en, hen⟩ : ∃ en, en = (edgesL Q.length T).length := ⟨_, rfl⟩
    have HEN := Lib.hid hen
    have HEP : Hid (en = (edgesP Q.length T).length) := Lib.hid (by rw [hen, edgesL_P, List.length_map])
    have hel2 : en ≤ 4096 := by rw [HEP.out]; exact edgesP_len hn T
    have HED := Lib.hid (edgesK_step Q T hv w.heap.size w)
    rw [hv] at HIS
    obtain ⟨n, hnq⟩ : ∃ n, n = Q.length := ⟨_, rfl⟩
    rw [← hnq] at hn HI HB0 HX0 ⊢
    clear hc0
    have HNQ := Lib.hid hnq
    clear hv hta hen hnq
    go_enter Try.func28, Try.ntmps28
    go_wp2_with (first
      | (go_at_call 69; refine (HIS.out _ HI.out HB0.out).mono ?_; rintro E w1 ⟨rfl, h1, h2, hk1⟩; have I1 := Lib.hid h1; have B1 := Lib.hid h2; obtain ⟨A1, c1, _, _, hg1, _⟩ := h1; have x1 : w1.cell? ⟨w.heap.size, 0, none⟩ = some (.slice A1 n c1) := (by rw [HNQ.out]; exact (blk_cell hg1 0).trans rfl); clear hg1 h2 hk1)
      | ((with_reducible refine gate_dst (N := 21) rfl ?_); refine Kd.R_lit (Kd.int .i64) _ 2 ?hg (N := 21) ?hd (xs := ([] : List Int)) (inner := []) (ok := fun _ => True) (okp := fun _ => True) ?hr ?hp (fun _ hk => hk) trivial (Below.refl _ _) (Nat.le_refl _) (by simp) ?_; (case hd => rfl); (case hg => rfl); (case hr => first | (go_simp; done) | (go_simp; rfl)); (case hp => exact (Reps.none _ _)); intro v2 w2 ho hb hg_ hnew_; clear hg_ hnew_; obtain ⟨Al, cl, rfl⟩ := Kd.R_slice ho; have B2 := Lib.hid (below_step B1.out hb); have I2 := Lib.hid (IsS27.below I1.out hb); have R2 := Lib.hid (Kd.R_lower ho (below_size B1.out)); clear ho hb)
      | fail)
    clear x1 HIS HB0 HI HX0 I1 B1
    go_loopw [6, 7] (fun v k wr => ∃ (i cv : Nat) (Av : Option Addr), i ≤ n ∧ v = .slice Av i cv ∧ k = .int .i64 (i : Int) ∧ Hid (Below w.heap.size w wr) ∧ Hid (VarN w wr w.heap.size Q T) ∧ Hid (Kd.R (Kd.int .i64) 2 wr w.heap.size (fun _ => True) (.slice Av i cv) (grp i fun j => j))) (fun _ k _ => n - (intOf k).toNat)
    case atStart => exact ⟨0, cl, Al, Nat.zero_le _, rfl, rfl, B2, I2, R2⟩
    case round =>
      clear B2 I2 R2
      obtain ⟨i, cv, Av, hi, rfl, rfl, HB, HI, HR⟩ := hrel
      by_cases hlt : i < n
      · have b1 : (i : Int) < (n : Int) := by omega
        have b2 : (0 : Int) ≤ (i : Int) := by omega
        have b3 : (i : Int) < 9223372036854775807 := by omega
        go_wp2_with (first
          | ((with_reducible refine gate_builtin (b := .append) (xs := #[.tmp 27, .tmp 29]) rfl ?_); at_builtin; refine Kd.R_append (Kd.int .i64) (w0 := w) w.heap.size rfl (.tmp 27) (.tmp 29) 56 2 (.int .i64 0) 8 rfl Try.underlying56 info2 rfl (by decide) (by omega) (.slice Av i cv) (grp i fun j => j) (i : Int) [.int .i64 (i : Int)] (fun _ => True) (fun _ => False) rfl rfl ?aP (fun _ hk => hk.elim) ?aF ?aO HB.out ?aS ?aL ?_; (case aP => exact rfl); (case aF => exact (fun _ _ => trivial)); (case aO => exact HR.out); (case aS => exact below_size HB.out); (case aL => rw [grp_len]; omega); intro v3 w4 ho hb hg hat; have I4 := Lib.hid (IsS27.grown HI.out hg (IsS27.own_ne HI.out HR.out (by decide))); rw [grp_snoc] at ho; obtain ⟨Aw, cw, ev⟩ := Kd.R_slice ho; rw [grp_len] at ev; subst ev; have B4 := Lib.hid hb; have R4 := Lib.hid ho; clear ho hb hg hat)
          | fail)
        exact ⟨⟨i + 1, cw, Aw, hlt, rfl, by simp, B4, I4, R4⟩, by simp [intOf]; omega⟩
      · obtain rfl : n = i := by omega
        go_wp2_with (first
          | (go_at_call 75; (with_reducible refine (HED.out _ HI.out HB.out).mono ?_); rintro E w5 ⟨v5, rfl, S5, I5, B5, K5⟩; obtain ⟨Ae, ce, ev⟩ := Kd.S_slice S5.out; rw [← HEN.out] at ev; subst ev)
          | fail)
        have R5 : Hid (Kd.R (Kd.int .i64) 2 w5 w.heap.size (fun _ => True) (.slice Av n cv) (grp n fun j => j)) := by
          obtain ⟨_, _, _, _, hg, _⟩ := HI.out
          exact Lib.hid (Kd.R_mono (Kd.R_keep (Kd.R_types HR.out hg (by decide)) K5.out (fun _ hk => hk.2)) (fun _ _ => trivial))
        have hlt5 := Kd.R_lt HR.out
        have E5 := Lib.hid (Kd.S_mono (ok' := fun k => some k ≠ (Value.slice Av n cv).ownBlock) (Kd.S_bound S5.out) (fun k hk he => by have h1 := hk.2.1; have h2 := hlt5 k he.symm; omega))
        clear hlt5 S5 K5 I5 HI HB HR hlt
        generalize wr.heap.size = bs at E5
        go_loopw [9] (fun k wr => ∃ (i : Nat) (r : Nat → Nat), i ≤ en ∧ k = .int .i64 (i : Int) ∧ Hid (Below w.heap.size w wr) ∧ Hid (Kd.S (Kd.slice 2 (Kd.int .i64)) 56 wr bs (fun k => some k ≠ (Value.slice Av n cv).ownBlock) (.slice Ae en ce) (edgesL Q.length T)) ∧ Hid (Kd.R (Kd.int .i64) 2 wr w.heap.size (fun _ => True) (.slice Av n cv) (grp n r)) ∧ Hid (Lab ((edgesP Q.length T).take i) r)) (fun k _ => en - (intOf k).toNat)
        case atStart => exact ⟨0, fun j => j, Nat.zero_le _, rfl, B5, E5, R5, Lib.hid Lab.start⟩
        case round =>
          clear B5 E5 R5
          obtain ⟨i, r, hi, rfl, HB, HS, HR, HL⟩ := hrel
          by_cases hlt' : i < en
          · have hlt : i < (edgesP Q.length T).length := by rw [← HEP.out]; exact hlt'
            have hlt2 : i < (edgesL Q.length T).length := by rw [← HEN.out]; exact hlt'
            have b1 : (i : Int) < (en : Int) := by omega
            have b2 : (0 : Int) ≤ (i : Int) := by omega
            have b3 : (i : Int) < 9223372036854775807 := by omega
            obtain ⟨ea, C, cc, rfl, tc, hcc, hC⟩ := at_L3 (Kd.S_reads' HS.out).2.2 (i : Int) b2 (by omega)
            rw [rdL _ i hlt2, Int.toNat_natCast] at tc
            rw [rdL _ i hlt2] at hcc hC
            obtain ⟨p, hp⟩ : ∃ p, p = (edgesP Q.length T)[i] := ⟨_, rfl⟩
            have hrow : (edgesL Q.length T)[i]'hlt2 = [(p.1 : Int), (p.2 : Int)] := by
              simp only [HEL.out, List.getElem_map, hp]
            rw [hrow] at tc hcc hC
            have hmem := mem_edgesP.1 (hp ▸ List.getElem_mem hlt)
            have HLN := Lib.hid (HL.out.step p.1 p.2)
            rw [show (edgesP Q.length T).take i ++ [(p.1, p.2)] = (edgesP Q.length T).take (i + 1) by rw [List.take_succ_eq_append_getElem hlt, ← hp]] at HLN
            have HLE := Lib.hid HL.out.le
            obtain ⟨a, b⟩ := p
            simp only at hmem hrow tc hcc hC HLN
            obtain ⟨h1, h2, h3, _⟩ := hmem
            rw [← HNQ.out] at h1 h2
            replace tc : wr.cell? (ea.add i) = some (.slice C 2 cc) := tc
            obtain ⟨ad, rfl, x0⟩ := Kd.at_int hC 0 (by omega) (by simp)
            obtain ⟨_, e0, x1⟩ := Kd.at_int hC 1 (by omega) (by simp)
            cases e0
            replace x0 : wr.cell? ad = some (.int .i64 (a : Int)) := by rw [show Int.toNat 0 = 0 from rfl, Addr.add_zero'] at x0; exact x0
            replace x1 : wr.cell? (ad.add 1) = some (.int .i64 (b : Int)) := x1
            simp only [Addr.add, Nat.reduceEqDiff, ↓reduceIte] at x1
            obtain ⟨gq, cr, er, hgq1, hgq2, _⟩ := Kd.R_form HR.out (by rw [grp_len]; omega)
            rw [grp_len] at er
            obtain ⟨rfl, rfl⟩ : Av = some ⟨gq, 0, none⟩ ∧ cv = cr := by injection er with h1 _ h3; exact ⟨h1, h3⟩
            have c1 : (a : Int) < (n : Int) := by omega
            have c2 : (0 : Int) ≤ (a : Int) := by omega
            have c3 : (b : Int) < (n : Int) := by omega
            have c4 : (0 : Int) ≤ (b : Int) := by omega
            obtain ⟨ya, _⟩ := Kd.R_celln (0 : Int) HR.out (a : Int) c2 c1
            obtain ⟨yb, _⟩ := Kd.R_celln (0 : Int) HR.out (b : Int) c4 c3
            replace ya : wr.cell? ⟨gq, a, none⟩ = some (.int .i64 ((r a : Nat) : Int)) := by rw [Int.toNat_natCast, show rdOf (0 : Int) (grp n r) (a : Int) = ((r a : Nat) : Int) from grp_rd n r a h1] at ya; exact ya
            replace yb : wr.cell? ⟨gq, b, none⟩ = some (.int .i64 ((r b : Nat) : Int)) := by rw [Int.toNat_natCast, show rdOf (0 : Int) (grp n r) (b : Int) = ((r b : Nat) : Int) from grp_rd n r b h2] at yb; exact yb
            clear hC hcc hrow hp er
            go_wp2_with fail
            clear tc x0 x1 ya yb c1 c2 c3 c4 b1 b2 b3
            go_loopw [12] (fun k wq => ∃ j : Nat, j ≤ n ∧ k = .int .i64 (j : Int) ∧ Hid (Below w.heap.size w wq) ∧ Hid (Kd.S (Kd.slice 2 (Kd.int .i64)) 56 wq bs (fun k => some k ≠ (Value.slice (some ⟨gq, 0, none⟩) n cv).ownBlock) (.slice (some ea) en ce) (edgesL Q.length T)) ∧ Hid (Kd.R (Kd.int .i64) 2 wq w.heap.size (fun _ => True) (.slice (some ⟨gq, 0, none⟩) n cv) (grp n (joinP r a b j)))) (fun k _ => n - (intOf k).toNat)
            case atStart => exact ⟨0, Nat.zero_le _, rfl, HB, HS, by rw [joinP_zero]; exact HR⟩
            case round =>
              clear HB HS HR
              obtain ⟨j, hj, rfl, HB, HS, HR⟩ := hrel
              by_cases hjn : j < n
              · have b1 : (j : Int) < (n : Int) := by omega
                have b2 : (0 : Int) ≤ (j : Int) := by omega
                have b3 : (j : Int) < 9223372036854775807 := by omega
                obtain ⟨ej, fj⟩ := Kd.R_celln (0 : Int) HR.out (j : Int) b2 b1
                replace ej : wr.cell? ⟨gq, j, none⟩ = some (.int .i64 ((r j : Nat) : Int)) := by rw [Int.toNat_natCast, show rdOf (0 : Int) (grp n (joinP r a b j)) (j : Int) = ((joinP r a b j j : Nat) : Int) from grp_rd n _ j hjn, joinP_at] at ej; exact ej
                have hput := Kd.R_putn HR.out (j : Int)
                obtain ⟨mM, hM⟩ : ∃ x, x = max (r a) (r b) := ⟨_, rfl⟩
                obtain ⟨mm, hm⟩ : ∃ x, x = min (r a) (r b) := ⟨_, rfl⟩
                have HMX : Hid (∀ W : World, Calls Try.prog 76 #[.int .i64 ((r a : Nat) : Int), .int .i64 ((r b : Nat) : Int)] W fun e w' => e = .returned (.int .i64 (mM : Int)) ∧ Drawn0 W w') := Lib.hid (fun W => spec_l00Max.calls (r a : Int) (r b : Int) _ W (by rw [hM]; exact max_f (r a) (r b)))
                have HMN : Hid (∀ W : World, Calls Try.prog 77 #[.int .i64 ((r a : Nat) : Int), .int .i64 ((r b : Nat) : Int)] W fun e w' => e = .returned (.int .i64 (mm : Int)) ∧ Drawn0 W w') := Lib.hid (fun W => spec_l00Min.calls (r a : Int) (r b : Int) _ W (by rw [hm]; exact min_f (r a) (r b)))
                have HJ1 : Hid (r j = mM → (grp n (joinP r a b j)).set j (mm : Int) = grp n (joinP r a b (j + 1))) := Lib.hid (fun h => by rw [hm]; exact joinP_hit n r a b j hjn (by rw [h, hM]))
                have HJ2 : Hid (¬ r j = mM → grp n (joinP r a b j) = grp n (joinP r a b (j + 1))) := Lib.hid (fun h => joinP_miss n r a b j (by rw [← hM]; exact h))
                clear hput fj hM hm
                by_cases hh : r j = mM
                · have hj1 := HJ1.out hh
                  rw [hh] at ej
                  have HEJ := Lib.hid ej
                  have HJ := Lib.hid hj1
                  clear hh hj1
                  go_wp2_with fail
                  refine start_ (n := 8) (S := fun w' => w'.cell? ⟨gq, j, none⟩ = some (.int .i64 (mM : Int))) (ds := []) #[false, false, false, false, false, false, false, false] (by kernel_rfl) rfl rfl (oldc (Below.drew (Below.refl wr.heap.size wr)) ej) (fun hHeld => ?_)
                  have D1 := Lib.hid (Below.drew (Below.refl wr.heap.size wr))
                  generalize wr.drew = w7 at *
                  refine pure_ (i := 0) (N := (some 61)) (v := ?_) (a' := ?_) #[true, false, false, false, false, false, false, false] rfl rfl (by kernel_rfl) (fun _ _ _ h => h) (Or.inl ⟨by rfl, ?_⟩) ?_ ?_
                  rotate_left
                  · intro w'
                    go_simp
                    with_reducible rfl
                  rotate_left
                  · simp only [Act.put, List.setIfInBounds_toArray, List.set_cons_zero, List.set_cons_succ, i64_w, i32_w]; rfl
                  refine pure_ (i := 1) (N := (some 62)) (v := ?_) (a' := ?_) #[true, true, false, false, false, false, false, false] rfl rfl (by kernel_rfl) (fun _ _ _ h => h) (Or.inl ⟨by rfl, ?_⟩) ?_ ?_
                  rotate_left
                  · intro w'
                    go_simp
                    with_reducible rfl
                  rotate_left
                  · simp only [Act.put, List.setIfInBounds_toArray, List.set_cons_zero, List.set_cons_succ, i64_w, i32_w]; rfl
                  refine pure_ (i := 2) (N := (some 63)) (v := ?_) (a' := ?_) #[true, true, true, false, false, false, false, false] rfl rfl (by kernel_rfl) (fun _ _ _ h => h) (Or.inl ⟨by rfl, ?_⟩) ?_ ?_
                  rotate_left
                  · intro w'
                    go_simp
                    with_reducible rfl
                  rotate_left
                  · simp only [Act.put, List.setIfInBounds_toArray, List.set_cons_zero, List.set_cons_succ, i64_w, i32_w]; rfl
                  refine pure_ (i := 4) (N := (some 65)) (v := ?_) (a' := ?_) #[true, true, true, false, true, false, false, false] rfl rfl (by kernel_rfl) (fun _ _ _ h => h) (Or.inl ⟨by rfl, ?_⟩) ?_ ?_
                  rotate_left
                  · intro w'
                    go_simp
                    with_reducible rfl
                  rotate_left
                  · simp only [Act.put, List.setIfInBounds_toArray, List.set_cons_zero, List.set_cons_succ, i64_w, i32_w]; rfl
                  refine pure_ (i := 5) (N := (some 66)) (v := ?_) (a' := ?_) #[true, true, true, false, true, true, false, false] rfl rfl (by kernel_rfl) (fun _ _ _ h => h) (Or.inl ⟨by rfl, ?_⟩) ?_ ?_
                  rotate_left
                  · intro w'
                    go_simp
                    with_reducible rfl
                  rotate_left
                  · simp only [Act.put, List.setIfInBounds_toArray, List.set_cons_zero, List.set_cons_succ, i64_w, i32_w]; rfl
                  refine take_ (i := 3) (N := (some 64)) (v := ?_) (a' := ?_) #[true, true, true, true, true, true, false, false] rfl rfl (by kernel_rfl) (fun _ _ _ h => h) (Or.inl ⟨by rfl, ?_⟩) hHeld ?_ ?_
                  rotate_left
                  · intro w' hSw
                    (try dsimp only at hSw)
                    go_simp
                    with_reducible rfl
                  rotate_left
                  · simp only [Act.put, List.setIfInBounds_toArray, List.set_cons_zero, List.set_cons_succ, i64_w, i32_w]; rfl
                  refine one_ (i := 6) (N := (some 67)) #[true, true, true, true, true, true, true, false] rfl rfl (by kernel_rfl) (by decide) (fun K hK => ?_)
                  refine goes_ Try.func76 (by kernel_rfl) rfl #[.int .i64 ((r a : Nat) : Int), .int .i64 ((r b : Nat) : Int)] (by rfl) rfl rfl (by (try simp only [List.map_toArray, List.map_cons, List.map_nil]); first | done | rfl) ?_
                  refine (HMX.out _).mono ?_
                  rintro E w8 ⟨rfl, hd⟩
                  have D2 := Lib.hid (below_then D1.out hd.below D1.out.size)
                  clear hd
                  refine ⟨_, rfl, ?_⟩
                  refine hK.out _ _ (oldc D2.out HEJ.out) (fun hHeld => ?_)
                  clear hK K
                  refine norm_ (a' := ?_) ?_ ?_
                  rotate_left
                  · show Act.put _ (some 67) _ = _
                    simp only [Act.put, List.setIfInBounds_toArray, List.set_cons_zero, List.set_cons_succ, i64_w, i32_w]
                    rfl
                  refine pure_ (i := 7) (N := (some 68)) (v := ?_) (a' := ?_) #[true, true, true, true, true, true, true, true] rfl rfl (by kernel_rfl) (fun _ _ _ h => h) (Or.inl ⟨by rfl, ?_⟩) ?_ ?_
                  rotate_left
                  · intro w'
                    go_simp
                    with_reducible rfl
                  rotate_left
                  · simp only [Act.put, List.setIfInBounds_toArray, List.set_cons_zero, List.set_cons_succ, i64_w, i32_w]; rfl
                  refine done_ (by kernel_rfl) ?_
                  clear hHeld ej
                  have F1 := Lib.hid (below_then HB.out D2.out HB.out.size)
                  have F2 := Lib.hid (Kd.S_below HS.out D2.out)
                  have F3 := Lib.hid (Kd.R_below HR.out D2.out)
                  clear HB HS HR D1 D2 HEJ
                  go_wp2_with (first
                    | (go_at_call 77; (with_reducible refine (HMN.out _).mono ?_); rintro E w9 ⟨rfl, hd⟩; have G1 := Lib.hid (below_then F1.out hd.below F1.out.size); have G2 := Lib.hid (Kd.S_below F2.out hd.below); have G3 := Lib.hid (Kd.R_below F3.out hd.below); obtain ⟨e9, f9⟩ := Kd.R_celln (0 : Int) G3.out (j : Int) b2 b1; rw [Int.toNat_natCast] at e9 f9; clear hd)
                    | fail)
                  have hput := Kd.R_putn G3.out (j : Int) (mm : Int)
                  rw [Int.toNat_natCast, HJ.out] at hput
                  exact ⟨⟨j + 1, by omega, by simp, Lib.hid (below_set G1.out hgq1), Lib.hid (Kd.S_far (p := ⟨gq, j, none⟩) G2.out (fun k hk h => hk (by rw [h]; rfl)) _), Lib.hid hput⟩, by simp [intOf]; omega⟩
                · have hj2 := HJ2.out hh
                  have HJ := Lib.hid hj2
                  obtain ⟨rj, hrj⟩ : ∃ x, x = r j := ⟨_, rfl⟩
                  rw [← hrj] at ej hh
                  have HEJ := Lib.hid ej
                  have hq : ((rj : Int) == (mM : Int)) = false := beq_eq_false_iff_ne.2 (by omega)
                  clear hj2 hrj
                  go_wp2_with fail
                  refine start_ (n := 8) (S := fun w' => w'.cell? ⟨gq, j, none⟩ = some (.int .i64 (rj : Int))) (ds := []) #[false, false, false, false, false, false, false, false] (by kernel_rfl) rfl rfl (oldc (Below.drew (Below.refl wr.heap.size wr)) ej) (fun hHeld => ?_)
                  have D1 := Lib.hid (Below.drew (Below.refl wr.heap.size wr))
                  generalize wr.drew = w7 at *
                  refine pure_ (i := 0) (N := (some 61)) (v := ?_) (a' := ?_) #[true, false, false, false, false, false, false, false] rfl rfl (by kernel_rfl) (fun _ _ _ h => h) (Or.inl ⟨by rfl, ?_⟩) ?_ ?_
                  rotate_left
                  · intro w'
                    go_simp
                    with_reducible rfl
                  rotate_left
                  · simp only [Act.put, List.setIfInBounds_toArray, List.set_cons_zero, List.set_cons_succ, i64_w, i32_w]; rfl
                  refine pure_ (i := 1) (N := (some 62)) (v := ?_) (a' := ?_) #[true, true, false, false, false, false, false, false] rfl rfl (by kernel_rfl) (fun _ _ _ h => h) (Or.inl ⟨by rfl, ?_⟩) ?_ ?_
                  rotate_left
                  · intro w'
                    go_simp
                    with_reducible rfl
                  rotate_left
                  · simp only [Act.put, List.setIfInBounds_toArray, List.set_cons_zero, List.set_cons_succ, i64_w, i32_w]; rfl
                  refine pure_ (i := 2) (N := (some 63)) (v := ?_) (a' := ?_) #[true, true, true, false, false, false, false, false] rfl rfl (by kernel_rfl) (fun _ _ _ h => h) (Or.inl ⟨by rfl, ?_⟩) ?_ ?_
                  rotate_left
                  · intro w'
                    go_simp
                    with_reducible rfl
                  rotate_left
                  · simp only [Act.put, List.setIfInBounds_toArray, List.set_cons_zero, List.set_cons_succ, i64_w, i32_w]; rfl
                  refine pure_ (i := 4) (N := (some 65)) (v := ?_) (a' := ?_) #[true, true, true, false, true, false, false, false] rfl rfl (by kernel_rfl) (fun _ _ _ h => h) (Or.inl ⟨by rfl, ?_⟩) ?_ ?_
                  rotate_left
                  · intro w'
                    go_simp
                    with_reducible rfl
                  rotate_left
                  · simp only [Act.put, List.setIfInBounds_toArray, List.set_cons_zero, List.set_cons_succ, i64_w, i32_w]; rfl
                  refine pure_ (i := 5) (N := (some 66)) (v := ?_) (a' := ?_) #[true, true, true, false, true, true, false, false] rfl rfl (by kernel_rfl) (fun _ _ _ h => h) (Or.inl ⟨by rfl, ?_⟩) ?_ ?_
                  rotate_left
                  · intro w'
                    go_simp
                    with_reducible rfl
                  rotate_left
                  · simp only [Act.put, List.setIfInBounds_toArray, List.set_cons_zero, List.set_cons_succ, i64_w, i32_w]; rfl
                  refine take_ (i := 3) (N := (some 64)) (v := ?_) (a' := ?_) #[true, true, true, true, true, true, false, false] rfl rfl (by kernel_rfl) (fun _ _ _ h => h) (Or.inl ⟨by rfl, ?_⟩) hHeld ?_ ?_
                  rotate_left
                  · intro w' hSw
                    (try dsimp only at hSw)
                    go_simp
                    with_reducible rfl
                  rotate_left
                  · simp only [Act.put, List.setIfInBounds_toArray, List.set_cons_zero, List.set_cons_succ, i64_w, i32_w]; rfl
                  refine one_ (i := 6) (N := (some 67)) #[true, true, true, true, true, true, true, false] rfl rfl (by kernel_rfl) (by decide) (fun K hK => ?_)
                  refine goes_ Try.func76 (by kernel_rfl) rfl #[.int .i64 ((r a : Nat) : Int), .int .i64 ((r b : Nat) : Int)] (by rfl) rfl rfl (by (try simp only [List.map_toArray, List.map_cons, List.map_nil]); first | done | rfl) ?_
                  refine (HMX.out _).mono ?_
                  rintro E w8 ⟨rfl, hd⟩
                  have D2 := Lib.hid (below_then D1.out hd.below D1.out.size)
                  clear hd
                  refine ⟨_, rfl, ?_⟩
                  refine hK.out _ _ (oldc D2.out HEJ.out) (fun hHeld => ?_)
                  clear hK K
                  refine norm_ (a' := ?_) ?_ ?_
                  rotate_left
                  · show Act.put _ (some 67) _ = _
                    simp only [Act.put, List.setIfInBounds_toArray, List.set_cons_zero, List.set_cons_succ, i64_w, i32_w]
                    rfl
                  refine pure_ (i := 7) (N := (some 68)) (v := ?_) (a' := ?_) #[true, true, true, true, true, true, true, true] rfl rfl (by kernel_rfl) (fun _ _ _ h => h) (Or.inl ⟨by rfl, ?_⟩) ?_ ?_
                  rotate_left
                  · intro w'
                    go_simp
                    with_reducible rfl
                  rotate_left
                  · simp only [Act.put, List.setIfInBounds_toArray, List.set_cons_zero, List.set_cons_succ, i64_w, i32_w]; rfl
                  refine done_ (by kernel_rfl) ?_
                  clear hHeld ej
                  have F1 := Lib.hid (below_then HB.out D2.out HB.out.size)
                  have F2 := Lib.hid (Kd.S_below HS.out D2.out)
                  have F3 := Lib.hid (Kd.R_below HR.out D2.out)
                  clear HB HS HR D1 D2 HEJ
                  go_wp2_with fail
                  exact ⟨⟨j + 1, by omega, by simp, F1, F2, by rw [← HJ.out]; exact F3⟩, by simp [intOf]; omega⟩
              · obtain rfl : n = j := by omega
                go_wp2_with fail
                exact ⟨⟨i + 1, mrg r a b, hlt', by simp, HB, HS, by rw [← joinP_all]; exact HR, HLN⟩, by simp [intOf]; omega⟩
          · obtain rfl : i = en := by omega
            have HLA : Hid (Lab (edgesP Q.length T) r) := Lib.hid (by have := HL.out; rwa [HEP.out, List.take_length] at this)
            have hcan := HCA.out r HLA.out
            rw [← HNQ.out] at hcan
            have HCN := Lib.hid hcan
            have HLE := Lib.hid HLA.out.le
            clear hcan HS HL HLA hlt'
            go_wp2_with (first
              | ((with_reducible refine gate_dst (N := 76) rfl ?_); refine Kd.R_make (Kd.int .i64) (w0 := w) w.heap.size 2 rfl (N := 76) rfl 56 _ _ rfl (n : Int) rfl rfl Try.underlying56 (.int .i64 0) 8 info2 rfl (by decide) (by omega) 0 (ok := fun _ => True) (okp := fun _ => True) rfl (fun _ hk => hk) trivial (by omega) (by omega) HB.out (below_size HB.out) ?_; intro v5 w5 ho hb hg hn5; obtain ⟨Ao, co, ev⟩ := Kd.R_slice ho; rw [List.length_replicate, Int.toNat_natCast] at ev; subst ev; rw [Int.toNat_natCast] at ho; have B5 := Lib.hid hb; have O5 := Lib.hid ho; have R5 := Lib.hid (Kd.R_mono (ok' := fun k => some k ≠ (Value.slice Ao n co).ownBlock) (Kd.R_grown (Kd.R_mono (ok' := fun k => k < wr.heap.size) (Kd.R_bound HR.out) (fun k hk => hk.2.2.1)) hg (fun _ _ => by simp)) (fun k hk he => by obtain ⟨b_, hb1, hb2⟩ := hn5; rw [hb1] at he; injection he with he; omega)); clear ho hb hg hn5)
              | fail)
            go_loopw [14, 15] (fun m k wr => ∃ i : Nat, i ≤ n ∧ m = .int .i64 ((numL r i).2 : Int) ∧ k = .int .i64 (i : Int) ∧ Hid (Below w.heap.size w wr) ∧ Hid (Kd.R (Kd.int .i64) 2 wr w.heap.size (fun k => some k ≠ (Value.slice Ao n co).ownBlock) (.slice Av n cv) (grp n r)) ∧ Hid (Kd.R (Kd.int .i64) 2 wr w.heap.size (fun _ => True) (.slice Ao n co) (numT r n i))) (fun _ k _ => n - (intOf k).toNat)
            case atStart => exact ⟨0, Nat.zero_le _, rfl, rfl, B5, R5, by rw [numT_zero]; exact O5⟩
            case round =>
              clear B5 R5 O5 HB HR
              obtain ⟨i, hi, rfl, rfl, HB, HR, HO⟩ := hrel
              by_cases hlt : i < n
              · have b1 : (i : Int) < (n : Int) := by omega
                have b2 : (0 : Int) ≤ (i : Int) := by omega
                have b3 : (i : Int) < 9223372036854775807 := by omega
                obtain ⟨gq, cr, er, _, _, _⟩ := Kd.R_form HR.out (by rw [grp_len]; omega)
                rw [grp_len] at er
                obtain ⟨rfl, rfl⟩ : Av = some ⟨gq, 0, none⟩ ∧ cv = cr := by injection er with h1 _ h3; exact ⟨h1, h3⟩
                obtain ⟨go, co', eo, hgo1, _, _⟩ := Kd.R_form HO.out (by rw [numT_len r n i hi]; omega)
                rw [numT_len r n i hi] at eo
                obtain ⟨rfl, rfl⟩ : Ao = some ⟨go, 0, none⟩ ∧ co = co' := by injection eo with h1 _ h3; exact ⟨h1, h3⟩
                obtain ⟨ei, _⟩ := Kd.R_celln (0 : Int) HR.out (i : Int) b2 b1
                replace ei : wr.cell? ⟨gq, i, none⟩ = some (.int .i64 ((r i : Nat) : Int)) := by rw [Int.toNat_natCast, show rdOf (0 : Int) (grp n r) (i : Int) = ((r i : Nat) : Int) from grp_rd n _ i hlt] at ei; exact ei
                obtain ⟨oi, of⟩ := Kd.R_celln (0 : Int) HO.out (i : Int) b2 b1
                rw [Int.toNat_natCast] at oi of
                have hput := Kd.R_putn HO.out (i : Int)
                have HFAR := Lib.hid (fun (v : Value) => Kd.R_far (p := ⟨go, i, none⟩) HR.out (fun k hk h => hk (by rw [h]; rfl)) v)
                have HSB := Lib.hid (fun (v : Value) => below_set (j := i) (v := v) HB.out hgo1)
                have hnl := numL_le r i
                by_cases hh : r i = i
                · obtain ⟨t1, t2⟩ := numT_new r n i hlt hh
                  have hp := hput ((numL r i).2 : Int)
                  rw [Int.toNat_natCast, t1] at hp
                  have HP := Lib.hid hp
                  rw [hh] at ei
                  have HT2 := Lib.hid t2
                  clear hput hp t1 t2 hh er eo
                  generalize (numL r i).2 = m at *
                  have b4 : (m : Int) < 9223372036854775807 := by omega
                  go_wp2_with fail
                  exact ⟨⟨i + 1, hlt, by rw [HT2.out]; simp, by simp, Lib.hid (HSB.out _), Lib.hid (HFAR.out _), HP⟩, by simp [intOf]; omega⟩
                · obtain ⟨t1, t2⟩ := numT_old r n i hlt hh
                  have hri := HLE.out i
                  obtain ⟨rv, hrv⟩ : ∃ x, x = r i := ⟨_, rfl⟩
                  have c1 : (rv : Int) < (n : Int) := by omega
                  have c2 : (0 : Int) ≤ (rv : Int) := by omega
                  obtain ⟨ov, _⟩ := Kd.R_celln (0 : Int) HO.out (rv : Int) c2 c1
                  rw [Int.toNat_natCast, numT_rd r n i rv (by omega)] at ov
                  have hp := hput ((numL r i).1.getD rv 0)
                  rw [← hrv] at t1 ei
                  rw [Int.toNat_natCast, t1] at hp
                  have HP := Lib.hid hp
                  have hq : ((rv : Int) == (i : Int)) = false := beq_eq_false_iff_ne.2 (by omega)
                  have HT2 := Lib.hid t2
                  clear hput hp t1 t2 hh er eo hri hrv
                  generalize (numL r i).1.getD rv 0 = x at *
                  generalize (numL r i).2 = m at *
                  go_wp2_with fail
                  exact ⟨⟨i + 1, hlt, by rw [HT2.out], by simp, Lib.hid (HSB.out _), Lib.hid (HFAR.out _), HP⟩, by simp [intOf]; omega⟩
              · obtain rfl : n = i := by omega
                have HO' := HO.out
                rw [numT_all] at HO'
                have HO2 := Lib.hid HO'
                clear HO' HO
                go_wp2_with fail
                go_ret3
                refine ⟨.slice Ao n co, ?_, by rw [HCN.out]; exact HO2.out, HB.out⟩
                rw [HCN.out]
                rfl
  · have hr : pieR Q.length T = ([], 0, false) := by unfold pieR; rw [if_neg hv]
    rw [Bool.eq_false_iff.2 hv] at HIS
    rw [hr]
    clear hr hv
    go_enter Try.func28, Try.ntmps28
    go_wp2_with (first
      | (go_at_call 69; refine (HIS.out _ HI.out HB0.out).mono ?_; rintro E w1 ⟨rfl, h1, h2, _⟩; have B1 := Lib.hid h2; clear h1 h2)
      | fail)
    go_ret3
    exact ⟨_, rfl, Kd.R_nil _ _ _ _ _, B1.out⟩

end Go.Proofs.Ytepilofcionekaa
namespace Go.Proofs.Ytepilofcionekaa
open Go.RowKit Go.Proofs.YtepilofcionekaaW.PrintWords Go.Proofs.Ytepilofcionekaa.PMesh Msh
set_option linter.unusedVariables false

set_option maxHeartbeats 4000000 in
set_option maxRecDepth 100000 in
theorem fnExactPiecesOf_walk (w : World) (A : Option Addr) (c : Nat) (L : List S122) (B : Option Addr) (e : Nat) (T : List (List Int)) (hL : Kd.C k122 w A L.length L) (hc : L.length ≤ c) (hT : Kd.C (Kd.slice 2 (Kd.int .i64)) w B T.length T) (he : T.length ≤ e) (ok : MeshOk L T)  :
    Calls Try.prog 6 #[.agg #[.slice A L.length c, .slice B T.length e]] w fun e w' => e = .returned (.bool true) ∧ Below w.heap.size w w' := by
  have came : CameM w A c L B e T := ⟨hL, hc, hT, he⟩
  obtain ⟨r, hsm, hr1, hsz⟩ := sz_step w w A c L B e T came ok 1048576 (by omega) (by omega)
  obtain ⟨P, hP⟩ : ∃ P, P = L.map toV := ⟨_, rfl⟩
  have HSZ := Lib.hid hsz
  have K0 := Lib.hid (below_alloc (Below.refl w.heap.size w) (.cells #[.slice A L.length c, .slice B T.length e] 50))
  clear hsz hL hc hT he 
  by_cases hneg : r < 0
  · clear came hsm
    go_enter Try.func6, Try.ntmps6
    go_wp2_with (first | (go_at_call 24; refine (HSZ.out _ K0.out).mono ?_; rintro E w1 ⟨rfl, hb⟩; have K1 := Lib.hid (below_then K0.out hb K0.out.size); clear hb) | fail)
    go_ret
    exact ⟨rfl, K1.out⟩
  · have hs := hsm (by omega)
    have hPl : P.length = L.length := by rw [hP, List.length_map]
    have hb1 : P.length ≤ 1048576 := by rw [hPl]; exact hs.1
    have hsim : simP P P := simP_self (by rw [hP]; exact map_ok ok.fl)
    have hto := to_step w A c L B e T came hs P hP
    obtain ⟨ans, hans⟩ : ∃ ans, ans = pieR P.length T := ⟨_, rfl⟩
    have h1 : ∀ (A : Option Addr) (c : Nat) (B : Option Addr) (e : Nat) (W : World), Kd.C k42 W A P.length P → P.length ≤ c → Kd.C (Kd.slice 2 (Kd.int .i64)) W B T.length T → T.length ≤ e → Calls Try.prog 28 #[.agg #[.slice A P.length c, .slice B T.length e]] W (AnsP W ans) := fun A c B e W p p' q q' => by rw [hans]; exact spec_PiecesOf A c P B e T W p q
    have h2 : ∀ (A : Option Addr) (c : Nat) (B : Option Addr) (e : Nat) (W : World), Kd.C k42 W A P.length P → P.length ≤ c → Kd.C (Kd.slice 2 (Kd.int .i64)) W B T.length T → T.length ≤ e → Calls Try.prog 29 #[.agg #[.slice A P.length c, .slice B T.length e]] W (AnsP W ans) := fun A c B e W p p' q q' => by rw [hans]; exact impl_PiecesOf A c P B e T W p p' q q'
    have hal : ans.1.length ≤ 1048576 := by rw [hans]; exact pieR_small _ _
    obtain ⟨l, nn, b⟩ := ans
    have H1 := Lib.hid h1
    have H2 := Lib.hid h2
    have HTO := Lib.hid hto
    have HT1 : Hid (T.length ≤ 1048576) := Lib.hid hs.2.1
    have HT2 : Hid (∀ t ∈ T, t.length ≤ 1048576) := Lib.hid hs.2.2
    have HSI := Lib.hid hsim
    have hal' : l.length ≤ 1048576 := hal
    have htot := tot_le T hs.2.2
    have htm : T.length ≤ 1048576 := hs.2.1
    have hk1 : ¬ (1 + 3 * (P.length : Int) + (tot T : Int)) < 0 := by omega
    have hk2 : ¬ (1 + (l.length : Int)) < 0 := by omega
    have BA0 := Lib.hid (BoxAt.new w 50 (.slice A L.length c) (.slice B T.length e))
    have z0 := BA0.out.lt
    clear h1 h2 hto hs hsim hsm hans hP came hal hPl htot htm ok
    go_enter Try.func6, Try.ntmps6
    go_wp2_with (first
      | (go_at_call 24; refine (HSZ.out _ K0.out).mono ?_; rintro E w1 ⟨rfl, hb⟩; have z1 := hb.size; have BA1 := Lib.hid (BA0.out.below hb); have bac1 := BA1.out.c0; have bad1 := BA1.out.c1; (try clear bac0 bad0); have K1 := Lib.hid (below_then K0.out hb K0.out.size); clear hb)
      | (go_at_call 26; first
          | (refine (HTO.out _ K3.out).mono ?_; rintro E w4 ⟨A4, c4, B4, e4, rfl, hx, hb, hk⟩; have z4 := hb.size; have W4 := Lib.hid (W3.out.below hb); have BA4 := Lib.hid (BA3.out.below hb); have bac4 := BA4.out.c0; have bad4 := BA4.out.c1; (try clear bac3 bad3); have X4 := Lib.hid hx; have K4 := Lib.hid hk; obtain ⟨w5, hw5⟩ : ∃ w5, w5 = w4.alloc (.cells #[.slice A4 P.length c4, .slice B4 T.length e4] 27) := ⟨_, rfl⟩; have hv5 := below_alloc (Below.refl w4.heap.size w4) (.cells #[.slice A4 P.length c4, .slice B4 T.length e4] 27); rw [← hw5] at hv5; have z5 := hv5.size; have W5 := Lib.hid (W4.out.below hv5); have X5 := Lib.hid (X4.out.below hv5); have BA5 := Lib.hid (BA4.out.below hv5); have bac5 := BA5.out.c0; have bad5 := BA5.out.c1; (try clear bac4 bad4); have BX5 := Lib.hid (BoxAt.new w4 27 (.slice A4 P.length c4) (.slice B4 T.length e4)); rw [← hw5] at BX5; have y5 := BX5.out.lt; have K5 := Lib.hid (below_then K4.out hv5 K4.out.size); have WW5 := Lib.hid hw5; clear hv5 hw5; clear hx hb hk)
          | (refine (HTO.out _ K1.out).mono ?_; rintro E w2 ⟨A2, c2, B2, e2, rfl, hx, hb, hk⟩; have z2 := hb.size; have BA2 := Lib.hid (BA1.out.below hb); have bac2 := BA2.out.c0; have bad2 := BA2.out.c1; (try clear bac1 bad1); have D2 := Lib.hid hx; have K2 := Lib.hid hk; clear hx hb hk))
      | (go_at_call 28; refine (H1.out _ _ _ _ _ D2.out.C.1 D2.out.C.2.1 D2.out.C.2.2.1 D2.out.C.2.2.2).mono ?_; rintro E w3 ⟨v3, rfl, hR, hb⟩; obtain ⟨A3, c3, rfl⟩ := Kd.R_slice hR; have z3 := hb.size; have D3 := Lib.hid (D2.out.below hb); have BA3 := Lib.hid (BA2.out.below hb); have bac3 := BA3.out.c0; have bad3 := BA3.out.c1; (try clear bac2 bad2); have W3 : Hid (OwnI w3 w2.heap.size w3.heap.size _ l) := Lib.hid (R_in hR); have K3 := Lib.hid (below_then K2.out hb K2.out.size); clear hR hb)
      | (go_at_call 29; rw [← WW5.out]; refine (H2.out _ _ _ _ _ X5.out.C.1 X5.out.C.2.1 X5.out.C.2.2.1 X5.out.C.2.2.2).mono ?_; rintro E w6 ⟨v6, rfl, hR, hb⟩; obtain ⟨A6, c6, rfl⟩ := Kd.R_slice hR; have z6 := hb.size; have W6 := Lib.hid (W5.out.below hb); have X6 := Lib.hid (X5.out.below hb); have BA6 := Lib.hid (BA5.out.below hb); have bac6 := BA6.out.c0; have bad6 := BA6.out.c1; (try clear bac5 bad5); have BX6 := Lib.hid (BX5.out.below hb); have bxc6 := BX6.out.c0; have bxd6 := BX6.out.c1; (try clear bxc5 bxd5); have G6 : Hid (OwnI w6 w5.heap.size w6.heap.size _ l) := Lib.hid (R_in hR); have K6 := Lib.hid (below_then K5.out hb K5.out.size); clear hR hb)
      | (go_at_call 30; refine (eqI_step l hal' _ _ _ _ _ _ _ _ _ G6.out W6.out).mono ?_; rintro E w7 ⟨rfl, hd⟩; have z7 := Nat.le_of_eq (Drawn0.sized hd).symm; have W7 := Lib.hid (W6.out.drawn hd); have X7 := Lib.hid (X6.out.drawn hd); have G7 := Lib.hid (G6.out.drawn hd); have BA7 := Lib.hid (BA6.out.drawn hd); have bac7 := BA7.out.c0; have bad7 := BA7.out.c1; (try clear bac6 bad6); have BX7 := Lib.hid (BX6.out.drawn hd); have bxc7 := BX7.out.c0; have bxd7 := BX7.out.c1; (try clear bxc6 bxd6); have K7 := Lib.hid (below_then K6.out hd.below K6.out.size); clear hd)
      | fail)
    obtain ⟨R, hR⟩ : ∃ R : World → Prop, R = fun W => OwnM W w3.heap.size w4.heap.size (.slice A4 P.length c4) (.slice B4 T.length e4) P T ∧ OwnI W w2.heap.size w3.heap.size (.slice A3 l.length c3) l ∧ OwnI W w5.heap.size w6.heap.size (.slice A6 l.length c6) l ∧ Below w.heap.size w W ∧ w7.heap.size ≤ W.heap.size := ⟨_, rfl⟩
    have hRb : ∀ W W', R W → Below W.heap.size W W' → R W' := by rw [hR]; rintro W W' ⟨x1, x2, x3, x4, x5⟩ hb; exact ⟨x1.below hb, x2.below hb, x3.below hb, below_then x4 hb x4.size, Nat.le_trans x5 hb.size⟩
    have hR0 : R w7 := by rw [hR]; exact ⟨X7.out, W7.out, G7.out, K7.out, Nat.le_refl _⟩
    have hRK : ∀ W, R W → Below w.heap.size w W := by rw [hR]; rintro W ⟨_, _, _, x4, _⟩; exact x4
    have hRX : ∀ W, R W → OwnM W w3.heap.size w4.heap.size (.slice A4 P.length c4) (.slice B4 T.length e4) P T := by rw [hR]; rintro W ⟨x1, _⟩; exact x1
    have HRD := Lib.hid hR
    have HRB := Lib.hid hRb
    have HRK := Lib.hid hRK
    have HRX := Lib.hid hRX
    have hS0 : w7.cell? ⟨w.heap.size, 0, none⟩ = some (.slice A L.length c) ∧ w7.cell? ⟨w.heap.size, 1, none⟩ = some (.slice B T.length e) ∧ w7.cell? ⟨w4.heap.size, 0, none⟩ = some (.slice A4 P.length c4) ∧ w7.cell? ⟨w4.heap.size, 1, none⟩ = some (.slice B4 T.length e4) ∧ BoxAt w7 w.heap.size 50 (.slice A L.length c) (.slice B T.length e) ∧ BoxAt w7 w4.heap.size 27 (.slice A4 P.length c4) (.slice B4 T.length e4) ∧ R w7 := ⟨BA7.out.c0, BA7.out.c1, BX7.out.c0, BX7.out.c1, BA7.out, BX7.out, hR0⟩
    clear hR hRb hRK hRX hR0 bac7 bad7 bxc7 bxd7
    go_region_held3 (fun w' => w'.cell? ⟨w.heap.size, 0, none⟩ = some (.slice A L.length c) ∧ w'.cell? ⟨w.heap.size, 1, none⟩ = some (.slice B T.length e) ∧ w'.cell? ⟨w4.heap.size, 0, none⟩ = some (.slice A4 P.length c4) ∧ w'.cell? ⟨w4.heap.size, 1, none⟩ = some (.slice B4 T.length e4) ∧ BoxAt w' w.heap.size 50 (.slice A L.length c) (.slice B T.length e) ∧ BoxAt w' w4.heap.size 27 (.slice A4 P.length c4) (.slice B4 T.length e4) ∧ R w') (first | with_reducible assumption | with_reducible exact keep4 HRB.out (by with_reducible assumption) (by with_reducible assumption) | with_reducible exact keep4d HRB.out (by with_reducible assumption))
      (first | (go_at_call 26; (with_reducible refine (HTO.out _ (HRK.out _ (rest4 (by with_reducible assumption)))).mono ?_); rintro E w8 ⟨A8, c8, B8, e8, rfl, hx, hb, hk⟩; have D8 := Lib.hid hx; clear hx hk) | (go_at_call 21; (with_reducible refine (eq_step P P T HSI.out hb1 HT1.out HT2.out _ _ _ _ _ 0 0 _ _ 0 0 _ _ _ _ _ _ (HRX.out _ (rest4 (by with_reducible assumption))) D8.out).mono ?_); rintro E w9 ⟨rfl, hb⟩))
    all_goals
      rename_i hH
      obtain ⟨bac9, bad9, bxc9, bxd9, ba, bx, hr⟩ := hH
      rw [HRD.out] at hr
      obtain ⟨r1, r2, r3, r4, z9⟩ := hr
      have BA9 := Lib.hid ba
      have BX9 := Lib.hid bx
      have X9 := Lib.hid r1
      have W9 := Lib.hid r2
      have G9 := Lib.hid r3
      have K9 := Lib.hid r4
      clear ba bx r1 r2 r3 r4
      go_wp2_with (first
        | (go_at_call 22; refine (markM_step P T hb1 HT1.out HT2.out 1 (by omega) (by omega) _ _ _ _ _ _ _ X9.out w K9.out (by omega) (by omega)).mono ?_; rintro E w10 ⟨rfl, hx, hk, hb⟩; have z10 := hk.1; have W10 := Lib.hid (W9.out.kept hk (by omega)); have G10 := Lib.hid (G9.out.kept hk (by omega)); have BA10 := Lib.hid (BA9.out.kept hk (by omega)); have bac10 := BA10.out.c0; have bad10 := BA10.out.c1; (try clear bac9 bad9); have BX10 := Lib.hid (BX9.out.kept hk (by omega)); have bxc10 := BX10.out.c0; have bxd10 := BX10.out.c1; (try clear bxc9 bxd9); have K10 := Lib.hid hb; clear hx hk hb)
        | (go_at_call 30; first
            | (refine (eqI_step l hal' _ _ _ _ _ _ _ _ _ H15.out W15.out).mono ?_; rintro E w16 ⟨rfl, hd⟩; have z16 := Nat.le_of_eq (Drawn0.sized hd).symm; have W16 := Lib.hid (W15.out.drawn hd); have G16 := Lib.hid (G15.out.drawn hd); have H16 := Lib.hid (H15.out.drawn hd); have BA16 := Lib.hid (BA15.out.drawn hd); have bac16 := BA16.out.c0; have bad16 := BA16.out.c1; (try clear bac15 bad15); have BX16 := Lib.hid (BX15.out.drawn hd); have bxc16 := BX16.out.c0; have bxd16 := BX16.out.c1; (try clear bxc15 bxd15); have K16 := Lib.hid (below_then K15.out hd.below K15.out.size); clear hd)
            | (refine (eqI_step l hal' _ _ _ _ _ _ _ _ _ G10.out W10.out).mono ?_; rintro E w11 ⟨rfl, hd⟩; have z11 := Nat.le_of_eq (Drawn0.sized hd).symm; have W11 := Lib.hid (W10.out.drawn hd); have G11 := Lib.hid (G10.out.drawn hd); have BA11 := Lib.hid (BA10.out.drawn hd); have bac11 := BA11.out.c0; have bad11 := BA11.out.c1; (try clear bac10 bad10); have BX11 := Lib.hid (BX10.out.drawn hd); have bxc11 := BX11.out.c0; have bxd11 := BX11.out.c1; (try clear bxc10 bxd10); have K11 := Lib.hid (below_then K10.out hd.below K10.out.size); clear hd))
        | (go_at_call 31; refine (markI_step l hal' 1 (by omega) (by omega) _ _ _ _ _ G11.out w.heap.size w K11.out (by omega) K11.out.size).mono ?_; rintro E w12 ⟨rfl, hx, hk, hb⟩; have z12 := hk.1; have W12 := Lib.hid (W11.out.kept hk (by omega)); have BA12 := Lib.hid (BA11.out.kept hk (by omega)); have bac12 := BA12.out.c0; have bad12 := BA12.out.c1; (try clear bac11 bad11); have BX12 := Lib.hid (BX11.out.kept hk (by omega)); have bxc12 := BX12.out.c0; have bxd12 := BX12.out.c1; (try clear bxc11 bxd11); have G12 := Lib.hid hx; have K12 := Lib.hid hb; clear hx hk hb)
        | (go_at_call 32; first
            | (refine (heldI_step l.length hal' 1 (by omega) (by omega) _ _ _ _ _ G16.out).mono ?_; rintro E w17 ⟨rfl, hd⟩; have z17 := Nat.le_of_eq (Drawn0.sized hd).symm; have G17 := Lib.hid (G16.out.drawn hd); have BA17 := Lib.hid (BA16.out.drawn hd); have bac17 := BA17.out.c0; have bad17 := BA17.out.c1; (try clear bac16 bad16); have BX17 := Lib.hid (BX16.out.drawn hd); have bxc17 := BX17.out.c0; have bxd17 := BX17.out.c1; (try clear bxc16 bxd16); have K17 := Lib.hid (below_then K16.out hd.below K16.out.size); clear hd)
            | (refine (heldI_step l.length hal' 1 (by omega) (by omega) _ _ _ _ _ G12.out).mono ?_; rintro E w13 ⟨rfl, hd⟩; have z13 := Nat.le_of_eq (Drawn0.sized hd).symm; have W13 := Lib.hid (W12.out.drawn hd); have G13 := Lib.hid (G12.out.drawn hd); have BA13 := Lib.hid (BA12.out.drawn hd); have bac13 := BA13.out.c0; have bad13 := BA13.out.c1; (try clear bac12 bad12); have BX13 := Lib.hid (BX12.out.drawn hd); have bxc13 := BX13.out.c0; have bxd13 := BX13.out.c1; (try clear bxc12 bxd12); have K13 := Lib.hid (below_then K12.out hd.below K12.out.size); clear hd))
        | (go_at_call 26; refine (HTO.out _ K13.out).mono ?_; rintro E w14 ⟨A14, c14, B14, e14, rfl, hx, hb, hk⟩; have z14 := hb.size; have W14 := Lib.hid (W13.out.below hb); have G14 := Lib.hid (G13.out.below hb); have BA14 := Lib.hid (BA13.out.below hb); have bac14 := BA14.out.c0; have bad14 := BA14.out.c1; (try clear bac13 bad13); have BX14 := Lib.hid (BX13.out.below hb); have bxc14 := BX14.out.c0; have bxd14 := BX14.out.c1; (try clear bxc13 bxd13); have D14 := Lib.hid hx; have K14 := Lib.hid hk; clear hx hb hk)
        | (go_at_call 29; refine (H2.out _ _ _ _ _ D14.out.C.1 D14.out.C.2.1 D14.out.C.2.2.1 D14.out.C.2.2.2).mono ?_; rintro E w15 ⟨v15, rfl, hR, hb⟩; obtain ⟨A15, c15, rfl⟩ := Kd.R_slice hR; have z15 := hb.size; have W15 := Lib.hid (W14.out.below hb); have G15 := Lib.hid (G14.out.below hb); have D15 := Lib.hid (D14.out.below hb); have BA15 := Lib.hid (BA14.out.below hb); have bac15 := BA15.out.c0; have bad15 := BA15.out.c1; (try clear bac14 bad14); have BX15 := Lib.hid (BX14.out.below hb); have bxc15 := BX15.out.c0; have bxd15 := BX15.out.c1; (try clear bxc14 bxd14); have H15 : Hid (OwnI w15 w14.heap.size w15.heap.size _ l) := Lib.hid (R_in hR); have K15 := Lib.hid (below_then K14.out hb K14.out.size); clear hR hb)
        | fail)
      go_ret
      exact ⟨rfl, K17.out⟩

end Go.Proofs.Ytepilofcionekaa
namespace Go.Proofs.Ytepilofcionekaa
open Go.ChangeShapes Go.WideShapes Go.ChangeAt Go.RowKit Go.Deep
open Go.ChangeMaps (open_string shut_string)

/-- A row of cells that can be read from A on; nil has none. -/
def RowIn (w : World) (A : Option Addr) (cs : List Value) : Prop :=
  (A = none ∧ cs = []) ∨ ∃ b off, A = some ⟨b, off, none⟩ ∧ b < w.heap.size ∧ ∀ i v, cs[i]? = some v → w.cell? ⟨b, off + i, none⟩ = some v

section
variable {H : Type} {enc : TypeId × Value → H} {P : Program} {w : World} {base : Nat} {spare : Nat → Bool} {held : Bool}

theorem flt_lt {k : FloatKind} {b : Nat} (h : (Lit.float k b).wf = true) : b < 2 ^ k.format.width := by
  cases k
  · show b < 4294967296; simpa [Lit.wf] using h
  · show b < 18446744073709551616; simpa [Lit.wf] using h

theorem op_float {r : Reach} {b0 : Nat} {t : TypeId} {k : FloatKind} {v : Value} {d : DataW H} {ps : List MemPlace} (ht : P.underlying t = some (.float k)) (hval : Value.okWide P w r b0 t v) (hd : DataW.Trod enc P w base spare held t v d ps) :
    ∃ b, b < 2 ^ k.format.width ∧ v = .float k b := by
  obtain ⟨b, rfl, _, _, hw⟩ := open_float ht hval hd
  exact ⟨b, flt_lt hw, rfl⟩

theorem op_int {r : Reach} {b0 : Nat} {t : TypeId} {k : IntKind} {v : Value} {d : DataW H} {ps : List MemPlace} (ht : P.underlying t = some (.int k)) (hval : Value.okWide P w r b0 t v) (hd : DataW.Trod enc P w base spare held t v d ps) :
    ∃ n, (k.min ≤ n ∧ n ≤ k.max) ∧ v = .int k n := by
  obtain ⟨n, rfl, _, _, hw⟩ := open_int ht hval hd
  exact ⟨n, by simpa [Lit.wf] using hw, rfl⟩

theorem op_string {r : Reach} {b0 : Nat} {t : TypeId} {v : Value} {d : DataW H} {ps : List MemPlace} (ht : P.underlying t = some .string) (hval : Value.okWide P w r b0 t v) (hd : DataW.Trod enc P w base spare held t v d ps) :
    ∃ s : ByteArray, s.size ≤ maxLen ∧ v = .string s := by
  obtain ⟨s, rfl, _, _, hw⟩ := open_string ht hval hd
  exact ⟨s, hw, rfl⟩

theorem trod_float {t : TypeId} {k : FloatKind} {n : Nat} {v : Value} {x : DataW H × List MemPlace} (ht : P.underlying t = some (.float k)) (h : DataW.trod enc P w base spare held n t [v] = some x) :
    ∃ b, b < 2 ^ k.format.width ∧ v = .float k b := by
  cases n with
  | zero => simp [DataW.trod] at h
  | succ n =>
    simp only [DataW.trod, ht] at h
    cases v <;> simp at h
    rename_i k' b
    obtain ⟨⟨rfl, hw⟩, _⟩ := h
    exact ⟨b, flt_lt hw, rfl⟩

theorem op_vec {r : Reach} {b0 : Nat} {t f : TypeId} {F : Array Field} {v : Value} {d : DataW H} {p : List MemPlace} (hs : P.underlying t = some (.struct F)) (hf : P.underlying f = some (.float .f32))
    (hF : (F.map (·.type)) = #[f, f, f]) (hone0 : oneCellFields P F = true) (hC : P.cellsOf t = 3)
    (hv : Value.okWide P w r b0 t v) (h : DataW.Trod enc P w base spare held t v d p) :
    ∃ x y z : Nat, x < 2 ^ 32 ∧ y < 2 ^ 32 ∧ z < 2 ^ 32 ∧ v = .agg #[.float .f32 x, .float .f32 y, .float .f32 z] := by
  obtain ⟨F⟩ := F
  have hl : F.length = 3 := by simpa using congrArg Array.size hF
  match F, hl with
  | [f0, f1, f2], _ =>
    simp at hF
    obtain ⟨e0, e1, e2⟩ := hF
    have hone : oneCellFields P #[f0, f1, f2] = true := hone0
    obtain ⟨v0, v1, v2, y0, y1, y2, n, rfl, _, _, t0, t1, t2⟩ := Joins.open_agg3 hs hone hC hv h
    rw [e0] at t0; rw [e1] at t1; rw [e2] at t2
    obtain ⟨x, hx, rfl⟩ := trod_float hf t0
    obtain ⟨y, hy, rfl⟩ := trod_float hf t1
    obtain ⟨z, hz, rfl⟩ := trod_float hf t2
    exact ⟨x, y, z, hx, hy, hz, rfl⟩
end
end Go.Proofs.Ytepilofcionekaa
namespace Go.Proofs.Ytepilofcionekaa
open Go.ChangeShapes Go.WideShapes Go.ChangeAt Go.RowKit Go.Deep Go.Proofs.YtepilofcionekaaW.PrintWords Go.Proofs.Ytepilofcionekaa.PMesh Msh
set_option linter.unusedVariables false

section
variable {H : Type} {enc : TypeId × Value → H} {P : Program} {w : World} {base : Nat} {held : Bool}

/-- A slice whose elements are opened one by one. -/
theorem op_rows {α : Type} (d : Kd α) (ok : α → Prop) {t e : TypeId} (ht : P.underlying t = some (.slice e)) (hC : P.cellsOf e = d.sz)
    (hel : ∀ (n : Nat) (cs : List Value) (y : DataW H × List MemPlace), DataW.trod enc P w base (fun _ => true) held n e cs = some y → ∃ x : α, d.K w x cs ∧ ok x)
    {fuel : Nat} {cs : List Value} {y : DataW H × List MemPlace} (h : DataW.trod enc P w base (fun _ => true) held fuel t cs = some y) :
    ∃ (A : Option Addr) (c : Nat) (xs : List α), cs = [.slice A xs.length c] ∧ xs.length ≤ c ∧ xs.length ≤ 9223372036854775807 ∧ Kd.C d w A xs.length xs ∧ ∀ x ∈ xs, ok x := by
  rcases open_slice ht h with ⟨rfl, _⟩ | ⟨a, len, cap, m, n, D, Pl, rfl, _, hl, hm, hmm, hyy, hx⟩
  · exact ⟨none, 0, [], rfl, Nat.le_refl _, by simp, Kd.C_nil d w, fun x hx => by simp at hx⟩
  · have hml : len ≤ m := by rw [hmm]; split <;> omega
    have each : ∀ i, i < len → ∃ x : α, (∃ cs', w.cells? base (a.add (i * d.sz)) d.sz = some cs' ∧ d.K w x cs') ∧ ok x := by
      intro i hi
      obtain ⟨cs', hc, ht'⟩ := hx i (by omega)
      rw [hC] at hc
      obtain ⟨x, hk, ho⟩ := hel n cs' _ ht'
      exact ⟨x, ⟨cs', hc, hk⟩, ho⟩
    obtain ⟨xs, hxl, hxs⟩ : ∃ xs : List α, xs.length = len ∧ ∀ i x, xs[i]? = some x → (∃ cs', w.cells? base (a.add (i * d.sz)) d.sz = some cs' ∧ d.K w x cs') ∧ ok x := by
      clear hx hml hmm hl hm hyy h
      induction len with
      | zero => exact ⟨[], rfl, fun i x hx => by simp at hx⟩
      | succ k ih =>
        obtain ⟨xs, hl, hx⟩ := ih (fun i hi => each i (by omega))
        obtain ⟨z, hz⟩ := each k (by omega)
        refine ⟨xs ++ [z], by simp [hl], fun i x hix => ?_⟩
        rcases Nat.lt_or_ge i xs.length with h' | h'
        · rw [List.getElem?_append_left h'] at hix
          exact hx i x hix
        · rw [List.getElem?_append_right h'] at hix
          have : i - xs.length = 0 := by
            rcases Nat.eq_zero_or_pos (i - xs.length) with h0 | h0
            · exact h0
            · rw [List.getElem?_eq_none (by simp; omega)] at hix; cases hix
          obtain rfl : i = k := by omega
          rw [this] at hix
          cases hix
          exact hz
    have hM : maxLen = 9223372036854775807 := rfl
    subst hxl
    refine ⟨some a, cap, xs, rfl, hl, by omega, ⟨rfl, by omega, fun _ => ⟨a, rfl, fun j p hj => ?_⟩⟩, fun x hxm => ?_⟩
    · obtain ⟨⟨cs', hc, hk⟩, _⟩ := hxs j p hj
      obtain ⟨_, hcl, hat⟩ := World.cells?_some hc
      refine ⟨cs', hcl, hk, fun i u hu => ?_⟩
      have hi : i < d.sz := by
        rcases Nat.lt_or_ge i cs'.length with h' | h'
        · omega
        · rw [List.getElem?_eq_none h'] at hu; cases hu
      have := hat i hi
      rw [Go.Deep.add_add] at this
      rw [this, hu]
    · obtain ⟨i, hi, rfl⟩ := List.getElem_of_mem hxm
      exact (hxs i _ (List.getElem?_eq_getElem hi)).2

theorem trod_int1 {t : TypeId} {k : IntKind} {n : Nat} {cs : List Value} {x : DataW H × List MemPlace} (ht : P.underlying t = some (.int k)) (hC : P.cellsOf t = 1) (h : DataW.trod enc P w base (fun _ => true) held n t cs = some x) :
    ∃ b : Int, cs = [.int k b] ∧ (Lit.int k b).wf = true := by
  cases n with
  | zero => simp [DataW.trod] at h
  | succ n =>
    simp only [DataW.trod, ht] at h
    match cs with
    | [] => simp at h
    | [v] =>
      cases v <;> simp at h
      rename_i k' b
      obtain ⟨⟨rfl, hw⟩, _⟩ := h
      exact ⟨b, rfl, hw⟩
    | _ :: _ :: _ => simp at h

theorem op_tris {t e q : TypeId} (ht : P.underlying t = some (.slice e)) (he : P.underlying e = some (.slice q)) (hq : P.underlying q = some (.int .i64)) (ce : P.cellsOf e = 1) (cq : P.cellsOf q = 1)
    {fuel : Nat} {cs : List Value} {y : DataW H × List MemPlace} (h : DataW.trod enc P w base (fun _ => true) held fuel t cs = some y) :
    ∃ (A : Option Addr) (c : Nat) (T : List (List Int)), cs = [.slice A T.length c] ∧ T.length ≤ c ∧ T.length ≤ 9223372036854775807 ∧ Kd.C (Kd.slice q (Kd.int .i64)) w A T.length T ∧ ∀ t ∈ T, t.length ≤ 9223372036854775807 := by
  refine op_rows (Kd.slice q (Kd.int .i64)) (fun t => t.length ≤ 9223372036854775807) ht ce (fun n cs y hy => ?_) h
  obtain ⟨A, c, xs, rfl, hc, hl, hC, _⟩ := op_rows (Kd.int .i64) (fun _ => True) he cq (fun n cs y hy => by
    obtain ⟨b, rfl, _⟩ := trod_int1 hq cq hy
    exact ⟨b, rfl, trivial⟩) hy
  exact ⟨xs, ⟨A, c, rfl, hc, hC⟩, hl⟩

theorem op_vrow {t f : TypeId} {f0 f1 f2 : Field} {n : Nat} {cs : List Value} {x : DataW H × List MemPlace} (hs : P.underlying t = some (.struct #[f0, f1, f2])) (hf : P.underlying f = some (.float .f32)) (e0 : f0.type = f) (e1 : f1.type = f) (e2 : f2.type = f)
    (hone : oneCellFields P #[f0, f1, f2] = true) (hC : P.cellsOf t = 3) (h : DataW.trod enc P w base (fun _ => true) held n t cs = some x) :
    ∃ a b c : Nat, a < 4294967296 ∧ b < 4294967296 ∧ c < 4294967296 ∧ cs = [.float .f32 a, .float .f32 b, .float .f32 c] := by
  obtain ⟨y0, y1, y2, m, _, hl, t0, t1, t2⟩ := trod_struct3 hs h
  rw [hC] at hl
  obtain ⟨o0, k0⟩ := hone_of hone 0 f0 rfl
  obtain ⟨o1, k1⟩ := hone_of hone 1 f1 rfl
  obtain ⟨o2, k2⟩ := hone_of hone 2 f2 rfl
  match cs, hl with
  | [v0, v1, v2], _ =>
    rw [o0, k0, e0] at t0
    rw [o1, k1, e1] at t1
    rw [o2, k2, e2] at t2
    obtain ⟨a, ha, rfl⟩ := trod_float (v := v0) hf t0
    obtain ⟨b, hb, rfl⟩ := trod_float (v := v1) hf t1
    obtain ⟨c, hc, rfl⟩ := trod_float (v := v2) hf t2
    exact ⟨a, b, c, ha, hb, hc, rfl⟩

theorem op_mesh {r : Reach} {b0 : Nat} {t tp tv tf tt ts ti : TypeId} {F G : Array Field} {v : Value} {d : DataW H} {p : List MemPlace}
    (hs : P.underlying t = some (.struct F)) (hF : (F.map (·.type)) = #[tp, tt]) (hone : oneCellFields P F = true) (hC : P.cellsOf t = 2)
    (hp : P.underlying tp = some (.slice tv)) (hv : P.underlying tv = some (.struct G)) (hG : (G.map (·.type)) = #[tf, tf, tf]) (honeG : oneCellFields P G = true) (hCv : P.cellsOf tv = 3) (hf : P.underlying tf = some (.float .f32))
    (ht : P.underlying tt = some (.slice ts)) (hts : P.underlying ts = some (.slice ti)) (hti : P.underlying ti = some (.int .i64)) (cs1 : P.cellsOf ts = 1) (ci : P.cellsOf ti = 1)
    (hval : Value.okWide P w r b0 t v) (h : DataW.Trod enc P w base (fun _ => true) held t v d p) :
    ∃ (A : Option Addr) (c : Nat) (L : List S122) (B : Option Addr) (e : Nat) (T : List (List Int)), v = .agg #[.slice A L.length c, .slice B T.length e] ∧ Kd.C k122 w A L.length L ∧ L.length ≤ c ∧ Kd.C (Kd.slice ti (Kd.int .i64)) w B T.length T ∧ T.length ≤ e ∧ MeshOk L T := by
  obtain ⟨F⟩ := F
  obtain ⟨G⟩ := G
  have hl : F.length = 2 := by simpa using congrArg Array.size hF
  have hlG : G.length = 3 := by simpa using congrArg Array.size hG
  match F, hl, G, hlG with
  | [f0, f1], _, [g0, g1, g2], _ =>
    simp at hF hG
    obtain ⟨e0, e1⟩ := hF
    obtain ⟨e2, e3, e4⟩ := hG
    obtain ⟨v0, v1, y0, y1, n, rfl, _, _, t0, t1⟩ := Joins.open_agg2 hs hone hC hval h
    rw [e0] at t0
    rw [e1] at t1
    obtain ⟨A, c, L, hA, hc, hL, hCL, hok⟩ := op_rows k122 (fun x => x.f0 < 4294967296 ∧ x.f1 < 4294967296 ∧ x.f2 < 4294967296) hp hCv (fun n cs y hy => by
      obtain ⟨a, b, c, ha, hb, hc, rfl⟩ := op_vrow hv hf e2 e3 e4 honeG hCv hy
      exact ⟨⟨a, b, c⟩, k122_mk w ⟨a, b, c⟩, ha, hb, hc⟩) t0
    obtain ⟨B, e, T, hB, he, hT, hCT, hr⟩ := op_tris ht hts hti cs1 ci t1
    cases hA
    cases hB
    exact ⟨A, c, L, B, e, T, rfl, hCL, hc, hCT, he, ⟨hL, hT, hr, hok⟩⟩
end
end Go.Proofs.Ytepilofcionekaa
