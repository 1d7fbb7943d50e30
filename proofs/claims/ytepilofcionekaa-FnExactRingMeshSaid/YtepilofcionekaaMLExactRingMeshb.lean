/-
  The proof's texts, one behind the other: XM1 XMmark XMrows XM2 XMlaw XMref XMcopy XMval XMheld XMans XMjoin0 XMmove0 XMapp2 XMgrid0 XA1 XOps XFrac XSine XB2 XB3 XB1 XB4 XMring0.
-/
import Derived.Test.YtepilofcionekaaFw
import Derived.Test.YtepilofcionekaaPMeshx4
import Derived.Test.YtepilofcionekaaPMeshx9
import Derived.Test.YtepilofcionekaaPMeshx15
import Derived.Test.YtepilofcionekaaPMeshx24
import Derived.Test.YtepilofcionekaaPMeshx35
import Derived.Test.YtepilofcionekaaPMeshx16
import Derived.Lib.Hide
import Derived.OwnWalk
import Derived.Test.YtepilofcionekaaPMeshx18
import Derived.Test.YtepilofcionekaaPMeshx36
import Derived.Test.YtepilofcionekaaPMeshx23
import Derived.Deep.RegionHeld3
import Derived.Test.YtepilofcionekaaPMeshx21
import Derived.Test.YtepilofcionekaaG8
import Derived.Laws.FloatArith
import Derived.Outline
namespace Go.Proofs.Ytepilofcionekaa.Msh
open Fl Go.RowKit Go.Proofs.YtepilofcionekaaW.PrintWords Go.Proofs.Ytepilofcionekaa.PMesh
set_option linter.unusedVariables false
set_option linter.unusedSimpArgs false

theorem wrap_fit {x : Int} (h0 : -9223372036854775808 ≤ x) (h1 : x ≤ 9223372036854775807) : wrap64 x = x := by unfold wrap64; omega

theorem rdI (l : List Int) (i : Nat) (h : i < l.length) : rd l (i : Int) = l[i] := by
  unfold rd
  rw [Int.toNat_natCast, List.getD_eq_getElem?_getD, List.getElem?_eq_getElem h]; rfl
theorem rdL (l : List (List Int)) (i : Nat) (h : i < l.length) : rd_L3 l (i : Int) = l[i] := by
  unfold rd_L3
  rw [Int.toNat_natCast, List.getD_eq_getElem?_getD, List.getElem?_eq_getElem h]; rfl
theorem rdV (l : List S42) (i : Nat) (h : i < l.length) : rd_T42 l (i : Int) = l[i] := by
  unfold rd_T42
  rw [Int.toNat_natCast, List.getD_eq_getElem?_getD, List.getElem?_eq_getElem h]; rfl
theorem rdW (l : List S122) (i : Nat) (h : i < l.length) : rd_T122 l (i : Int) = l[i] := by
  unfold rd_T122
  rw [Int.toNat_natCast, List.getD_eq_getElem?_getD, List.getElem?_eq_getElem h]; rfl

theorem up (i : Nat) (h : i ≤ 9223372036854775806) : wrap64 ((i : Int) + 1) = ((i + 1 : Nat) : Int) := by rw [wrap_fit (by omega) (by omega)]; omega

/-! sizes -/
theorem sz_loop (T : List (List Int)) (hr : ∀ t ∈ T, t.length ≤ 9223372036854775807) (hT : T.length ≤ 1048576) (d : Nat) : ∀ (k i : Nat) (a : Int), i ≤ T.length → T.length - i = d → d < k → 0 ≤ a → a ≤ 1048576 →
    ∃ r, laws_szInt64SS.l0 k T a (i : Int) = some r ∧ r ≤ 1048576 ∧ (0 ≤ r → ∀ j, i ≤ j → (h : j < T.length) → T[j].length ≤ 1048576) := by
  induction d with
  | zero =>
    intro k i a hi hd hk h0 h1
    obtain ⟨k, rfl⟩ : ∃ j, k = j + 1 := ⟨k - 1, by omega⟩
    simp only [laws_szInt64SS.l0]
    rw [if_neg (by omega)]
    exact ⟨a, rfl, h1, fun _ j hij hj => by omega⟩
  | succ d ih =>
    intro k i a hi hd hk h0 h1
    obtain ⟨k, rfl⟩ : ∃ j, k = j + 1 := ⟨k - 1, by omega⟩
    have hlt : i < T.length := by omega
    have hl := hr T[i] (List.getElem_mem hlt)
    simp only [laws_szInt64SS.l0]
    rw [if_pos (by omega), if_pos (by omega), rdL T i hlt]
    unfold laws_szInt64S.f
    rw [wrap_fit (by omega) (by omega)]
    by_cases hneg : a - (T[i].length : Int) < 0
    · rw [if_pos hneg]
      simp only [Option.bind_some]
      rw [if_pos (by decide)]
      exact ⟨-1, rfl, by decide, fun h => by omega⟩
    · rw [if_neg hneg]
      simp only [Option.bind_some]
      rw [if_neg hneg, up i (by omega)]
      obtain ⟨r, e, hr1, h⟩ := ih k (i + 1) (a - (T[i].length : Int)) (by omega) (by omega) (by omega) (by omega) (by omega)
      refine ⟨r, e, hr1, fun h0 j hij hj => ?_⟩
      rcases Nat.lt_or_ge i j with hlt' | hge
      · exact h h0 j hlt' hj
      · obtain rfl : i = j := by omega
        omega

theorem szMesh_f (Pl : List S122) (T : List (List Int)) (hP : Pl.length ≤ 9223372036854775807) (hT : T.length ≤ 9223372036854775807) (hr : ∀ t ∈ T, t.length ≤ 9223372036854775807) (k : Nat) (hk : 1048577 < k) (a : Int) (ha : 0 ≤ a) (ha1 : a ≤ 1048576) :
    ∃ r, laws_szMesh.f k Pl T a = some r ∧ r ≤ 1048576 ∧ (0 ≤ r → Pl.length ≤ 1048576 ∧ T.length ≤ 1048576 ∧ ∀ t ∈ T, t.length ≤ 1048576) := by
  unfold laws_szMesh.f laws_szVectorS.f
  rw [wrap_fit (by omega) (by omega)]
  by_cases h1 : a - (Pl.length : Int) < 0
  · rw [if_pos h1]
    simp only [Option.bind_some]
    rw [if_pos (by decide)]
    exact ⟨-1, rfl, by decide, fun h => by omega⟩
  · rw [if_neg h1]
    simp only [Option.bind_some]
    rw [if_neg h1]
    unfold laws_szInt64SS.f
    rw [wrap_fit (by omega) (by omega)]
    by_cases h2 : a - (Pl.length : Int) - (T.length : Int) < 0
    · rw [if_pos h2]
      simp only [Option.bind_some]
      rw [if_pos (by decide)]
      exact ⟨-1, rfl, by decide, fun h => by omega⟩
    · rw [if_neg h2]
      obtain ⟨r, e, hr1, h⟩ := sz_loop T hr (by omega) T.length k 0 _ (by omega) (by omega) (by omega) (Int.not_lt.1 h2) (by omega)
      rw [show ((0 : Nat) : Int) = 0 from rfl] at e
      rw [e]
      simp only [Option.bind_some]
      by_cases h3 : r < 0
      · rw [if_pos h3]
        exact ⟨-1, rfl, by decide, fun h => by omega⟩
      · rw [if_neg h3]
        refine ⟨r, rfl, hr1, fun h0 => ⟨by omega, by omega, fun t ht => ?_⟩⟩
        obtain ⟨j, hj, rfl⟩ := List.getElem_of_mem ht
        exact h h0 j (by omega) hj

/-! copies -/
def toV (x : S122) : S42 := ⟨x.f0, x.f1, x.f2⟩

theorem toI_loop (l : List Int) (hl : l.length ≤ 1048576) (d : Nat) : ∀ (k i : Nat) (out : List Int), i ≤ l.length → l.length - i = d → d < k → out.length = l.length → (∀ j, j < i → out[j]? = l[j]?) → laws_toInt64S.l0 k l out (i : Int) = some l := by
  induction d with
  | zero =>
    intro k i out hi hd hk ho hj
    obtain ⟨k, rfl⟩ : ∃ j, k = j + 1 := ⟨k - 1, by omega⟩
    simp only [laws_toInt64S.l0]
    rw [if_neg (by omega)]
    congr 1
    apply List.ext_getElem?
    intro j
    rcases Nat.lt_or_ge j i with h | h
    · exact hj j h
    · rw [List.getElem?_eq_none (by omega), List.getElem?_eq_none (by omega)]
  | succ d ih =>
    intro k i out hi hd hk ho hj
    obtain ⟨k, rfl⟩ : ∃ j, k = j + 1 := ⟨k - 1, by omega⟩
    have hil : i < l.length := by omega
    simp only [laws_toInt64S.l0]
    rw [if_pos (by omega), if_pos (by omega), if_pos (by omega), rdI l i hil, up i (by omega), Int.toNat_natCast]
    refine ih k (i + 1) _ (by omega) (by omega) (by omega) (by rw [List.length_set]; exact ho) (fun j hji => ?_)
    by_cases e : j = i
    · subst e; rw [List.getElem?_set_self (by omega), List.getElem?_eq_getElem hil]
    · rw [List.getElem?_set_ne (by omega)]; exact hj j (by omega)

theorem toI_f (l : List Int) (hl : l.length ≤ 1048576) (k : Nat) (hk : 1048577 < k) : laws_toInt64S.f k l = some l := by
  unfold laws_toInt64S.f
  rw [if_pos (by omega), Int.toNat_natCast, if_pos (by omega)]
  exact toI_loop l hl l.length k 0 _ (by omega) (by omega) (by omega) (by simp) (fun j hj => absurd hj (Nat.not_lt_zero _))

theorem toT_loop (T : List (List Int)) (hl : T.length ≤ 1048576) (hr : ∀ t ∈ T, t.length ≤ 1048576) (d : Nat) : ∀ (k i : Nat) (out : List (List Int)), i ≤ T.length → T.length - i = d → d + 1048578 < k → out.length = T.length → (∀ j, j < i → out[j]? = T[j]?) → laws_toInt64SS.l0 k T out (i : Int) = some T := by
  induction d with
  | zero =>
    intro k i out hi hd hk ho hj
    obtain ⟨k, rfl⟩ : ∃ j, k = j + 1 := ⟨k - 1, by omega⟩
    simp only [laws_toInt64SS.l0]
    rw [if_neg (by omega)]
    congr 1
    apply List.ext_getElem?
    intro j
    rcases Nat.lt_or_ge j i with h | h
    · exact hj j h
    · rw [List.getElem?_eq_none (by omega), List.getElem?_eq_none (by omega)]
  | succ d ih =>
    intro k i out hi hd hk ho hj
    obtain ⟨k, rfl⟩ : ∃ j, k = j + 1 := ⟨k - 1, by omega⟩
    have hil : i < T.length := by omega
    simp only [laws_toInt64SS.l0]
    rw [if_pos (by omega), if_pos (by omega), rdL T i hil, toI_f _ (hr _ (List.getElem_mem hil)) k (by omega)]
    simp only [Option.bind_some]
    rw [if_pos (by omega), up i (by omega), Int.toNat_natCast]
    refine ih k (i + 1) _ (by omega) (by omega) (by omega) (by rw [List.length_set]; exact ho) (fun j hji => ?_)
    by_cases e : j = i
    · subst e; rw [List.getElem?_set_self (by omega), List.getElem?_eq_getElem hil]
    · rw [List.getElem?_set_ne (by omega)]; exact hj j (by omega)

theorem toP_loop (L : List S122) (hl : L.length ≤ 1048576) (d : Nat) : ∀ (k i : Nat) (out : List S42), i ≤ L.length → L.length - i = d → d < k → out.length = L.length → (∀ j, j < i → out[j]? = (L.map toV)[j]?) → laws_toVectorS.l0 k L out (i : Int) = some (L.map toV) := by
  induction d with
  | zero =>
    intro k i out hi hd hk ho hj
    obtain ⟨k, rfl⟩ : ∃ j, k = j + 1 := ⟨k - 1, by omega⟩
    simp only [laws_toVectorS.l0]
    rw [if_neg (by omega)]
    congr 1
    apply List.ext_getElem?
    intro j
    rcases Nat.lt_or_ge j i with h | h
    · exact hj j h
    · rw [List.getElem?_eq_none (by omega), List.getElem?_eq_none (by rw [List.length_map]; omega)]
  | succ d ih =>
    intro k i out hi hd hk ho hj
    obtain ⟨k, rfl⟩ : ∃ j, k = j + 1 := ⟨k - 1, by omega⟩
    have hil : i < L.length := by omega
    simp only [laws_toVectorS.l0]
    rw [if_pos (by omega), if_pos (by omega), rdW L i hil]
    unfold laws_toVector.f
    simp only [Option.bind_some]
    rw [if_pos (by omega), up i (by omega), Int.toNat_natCast]
    refine ih k (i + 1) _ (by omega) (by omega) (by omega) (by rw [List.length_set]; exact ho) (fun j hji => ?_)
    by_cases e : j = i
    · subst e; rw [List.getElem?_set_self (by omega), List.getElem?_map, List.getElem?_eq_getElem hil]; rfl
    · rw [List.getElem?_set_ne (by omega)]; exact hj j (by omega)

theorem toMesh_f (L : List S122) (T : List (List Int)) (hL : L.length ≤ 1048576) (hT : T.length ≤ 1048576) (hr : ∀ t ∈ T, t.length ≤ 1048576) (k : Nat) (hk : 2097155 < k) : laws_toMesh.f k L T = some (L.map toV, T) := by
  unfold laws_toMesh.f laws_toVectorS.f
  rw [if_pos (by omega), Int.toNat_natCast, if_pos (by omega)]
  have h1 := toP_loop L hL L.length k 0 (List.replicate L.length z42) (by omega) (by omega) (by omega) (by simp) (fun j hj => absurd hj (Nat.not_lt_zero _))
  rw [show ((0 : Nat) : Int) = 0 from rfl] at h1
  rw [h1]
  simp only [Option.bind_some]
  unfold laws_toInt64SS.f
  rw [if_pos (by omega), Int.toNat_natCast, if_pos (by omega)]
  have h2 := toT_loop T hT hr T.length k 0 (List.replicate T.length []) (by omega) (by omega) (by omega) (by simp) (fun j hj => absurd hj (Nat.not_lt_zero _))
  rw [show ((0 : Nat) : Int) = 0 from rfl] at h2
  rw [h2]
  rfl

/-! equal meshes -/
/-- A vector of floats below 2^32. -/
def okV (x : S42) : Prop := x.f0 < 4294967296 ∧ x.f1 < 4294967296 ∧ x.f2 < 4294967296
/-- Vectors with the same values. -/
def simV (x y : S42) : Prop := simF x.f0 y.f0 = true ∧ simF x.f1 y.f1 = true ∧ simF x.f2 y.f2 = true
theorem simV_self {x : S42} (h : okV x) : simV x x := ⟨simF_self h.1, simF_self h.2.1, simF_self h.2.2⟩
def simP (a b : List S42) : Prop := a.length = b.length ∧ ∀ (i : Nat) (ha : i < a.length) (hb : i < b.length), simV a[i] b[i]
theorem simP_self {a : List S42} (h : ∀ x ∈ a, okV x) : simP a a := ⟨rfl, fun i ha _ => simV_self (h _ (List.getElem_mem ha))⟩

theorem eqV_loop (a b : List S42) (hl : a.length ≤ 1048576) (h : simP a b) (d : Nat) : ∀ (k i : Nat), i ≤ a.length → a.length - i = d → d < k → laws_eqVectorS.l0 k a b (i : Int) = some true := by
  have hab := h.1
  induction d with
  | zero =>
    intro k i hi hd hk
    obtain ⟨k, rfl⟩ : ∃ j, k = j + 1 := ⟨k - 1, by omega⟩
    simp only [laws_eqVectorS.l0]
    rw [if_neg (by omega)]
  | succ d ih =>
    intro k i hi hd hk
    obtain ⟨k, rfl⟩ : ∃ j, k = j + 1 := ⟨k - 1, by omega⟩
    have hia : i < a.length := by omega
    have hib : i < b.length := by omega
    simp only [laws_eqVectorS.l0]
    rw [if_pos (by omega), if_pos (by omega), if_pos (by omega), rdV a i hia, rdV b i hib]
    unfold laws_eqVector.f
    have hs := h.2 i hia hib
    unfold simV at hs
    rw [if_pos hs]
    simp only [Option.bind_some]
    rw [if_pos trivial, up i (by omega)]
    exact ih k (i + 1) (by omega) (by omega) (by omega)

theorem eqI_loop (l : List Int) (hl : l.length ≤ 1048576) (d : Nat) : ∀ (k i : Nat), i ≤ l.length → l.length - i = d → d < k → laws_eqInt64S.l0 k l l (i : Int) = some true := by
  induction d with
  | zero =>
    intro k i hi hd hk
    obtain ⟨k, rfl⟩ : ∃ j, k = j + 1 := ⟨k - 1, by omega⟩
    simp only [laws_eqInt64S.l0]
    rw [if_neg (by omega)]
  | succ d ih =>
    intro k i hi hd hk
    obtain ⟨k, rfl⟩ : ∃ j, k = j + 1 := ⟨k - 1, by omega⟩
    simp only [laws_eqInt64S.l0]
    rw [if_pos (by omega), if_pos (by omega), if_pos (by omega), if_pos trivial, up i (by omega)]
    exact ih k (i + 1) (by omega) (by omega) (by omega)

theorem eqI_f (l : List Int) (hl : l.length ≤ 1048576) (k : Nat) (hk : 1048577 < k) : laws_eqInt64S.f k l l = some true := by
  unfold laws_eqInt64S.f
  rw [if_pos rfl]
  exact eqI_loop l hl l.length k 0 (by omega) (by omega) (by omega)

theorem eqT_loop (T : List (List Int)) (hl : T.length ≤ 1048576) (hr : ∀ t ∈ T, t.length ≤ 1048576) (d : Nat) : ∀ (k i : Nat), i ≤ T.length → T.length - i = d → d + 1048578 < k → laws_eqInt64SS.l0 k T T (i : Int) = some true := by
  induction d with
  | zero =>
    intro k i hi hd hk
    obtain ⟨k, rfl⟩ : ∃ j, k = j + 1 := ⟨k - 1, by omega⟩
    simp only [laws_eqInt64SS.l0]
    rw [if_neg (by omega)]
  | succ d ih =>
    intro k i hi hd hk
    obtain ⟨k, rfl⟩ : ∃ j, k = j + 1 := ⟨k - 1, by omega⟩
    have hil : i < T.length := by omega
    simp only [laws_eqInt64SS.l0]
    rw [if_pos (by omega), if_pos (by omega), if_pos (by omega), rdL T i hil, eqI_f _ (hr _ (List.getElem_mem hil)) k (by omega)]
    simp only [Option.bind_some]
    rw [if_pos trivial, up i (by omega)]
    exact ih k (i + 1) (by omega) (by omega) (by omega)

theorem eqMesh_f (a b : List S42) (T : List (List Int)) (h : simP a b) (hL : a.length ≤ 1048576) (hT : T.length ≤ 1048576) (hr : ∀ t ∈ T, t.length ≤ 1048576) (k : Nat) (hk : 2097155 < k) : laws_eqMesh.f k a T b T = some true := by
  unfold laws_eqMesh.f laws_eqVectorS.f
  have hab := h.1
  have h1 := eqV_loop a b hL h a.length k 0 (by omega) (by omega) (by omega)
  have h2 := eqT_loop T hT hr T.length k 0 (by omega) (by omega) (by omega)
  rw [show ((0 : Nat) : Int) = 0 from rfl] at h1 h2
  rw [if_pos (by omega), h1]
  simp only [Option.bind_some]
  rw [if_pos trivial]
  unfold laws_eqInt64SS.f
  rw [if_pos rfl, h2]
  rfl

/-! valid meshes -/
def inB (n : Nat) (p : Int) : Bool := decide (0 ≤ p ∧ p < (n : Int))
/-- A triangle of n places. -/
def triB (n : Nat) (t : List Int) : Bool := match t with
  | [a, b, c] => decide (a ≠ b) && decide (b ≠ c) && decide (a ≠ c) && inB n a && inB n b && inB n c
  | _ => false
def validB (n : Nat) (T : List (List Int)) : Bool := decide (n ≤ 64) && decide (T.length ≤ 128) && T.all (triB n)

theorem in_f (n : Nat) (hn : n ≤ 64) (p : Int) : spec_l00In.f p 0 (wrap64 ((n : Int) - 1)) = some (inB n p) := by
  unfold spec_l00In.f inB
  rw [wrap_fit (by omega) (by omega)]
  by_cases h : p ≥ 0
  · rw [if_pos h]; congr 1; rw [decide_eq_decide]; omega
  · rw [if_neg h]; congr 1; symm; rw [decide_eq_false_iff_not]; omega
theorem within_f (n : Nat) (hn : n ≤ 64) (p : Int) : impl_within.f p 0 (wrap64 ((n : Int) - 1)) = some (inB n p) := in_f n hn p

theorem tri3 {t : List Int} (h : t.length = 3) : ∃ a b c, t = [a, b, c] := by
  match t, h with
  | [a, b, c], _ => exact ⟨a, b, c, rfl⟩
theorem triB_len {n : Nat} {t : List Int} (h : triB n t = true) : t.length = 3 := by
  unfold triB at h
  split at h
  · rfl
  · cases h
theorem triB_not {n : Nat} {t : List Int} (h : ¬ t.length = 3) : triB n t = false := by
  cases e : triB n t
  · rfl
  · exact absurd (triB_len e) h

theorem rd3_0 (a b c : Int) : rd [a, b, c] 0 = a := rfl
theorem rd3_1 (a b c : Int) : rd [a, b, c] 1 = b := rfl
theorem rd3_2 (a b c : Int) : rd [a, b, c] 2 = c := rfl

theorem triB_rd (n : Nat) (t : List Int) (h : t.length = 3) : triB n t = (decide (rd t 0 ≠ rd t 1) && decide (rd t 1 ≠ rd t 2) && decide (rd t 0 ≠ rd t 2) && t.all (inB n)) := by
  obtain ⟨a, b, c, rfl⟩ := tri3 h
  rw [rd3_0, rd3_1, rd3_2]
  simp only [triB, List.all_cons, List.all_nil, Bool.and_true, Bool.and_assoc]

theorem triangle_f (n : Nat) (hn : n ≤ 64) (t : List Int) (k : Nat) (hk : 1 < k) : spec_l02Triangle.f k t (n : Int) = some (triB n t) := by
  obtain ⟨k, rfl⟩ : ∃ j, k = j + 1 := ⟨k - 1, by omega⟩
  unfold spec_l02Triangle.f
  by_cases h3 : t.length = 3
  · obtain ⟨a, b, c, rfl⟩ := tri3 h3
    simp only [spec_l02Triangle.j0, rd3_0, rd3_1, rd3_2, in_f n hn, Option.bind_some]
    simp only [triB, List.length_cons, List.length_nil]
    by_cases e1 : a = b <;> by_cases e2 : b = c <;> by_cases e3 : a = c <;> by_cases i1 : inB n a = true <;> by_cases i2 : inB n b = true <;> simp_all
  · rw [if_neg (by omega)]
    simp only [spec_l02Triangle.j0]
    rw [if_pos trivial, triB_not h3]

theorem is_loop (Q : List S42) (T : List (List Int)) (hn : Q.length ≤ 64) (hT : T.length ≤ 128) (d : Nat) : ∀ (k i : Nat), i ≤ T.length → T.length - i = d → d + 2 < k → spec_l02Is.l0 k (i : Int) Q T = some ((T.drop i).all (triB Q.length)) := by
  induction d with
  | zero =>
    intro k i hi hd hk
    obtain ⟨k, rfl⟩ : ∃ j, k = j + 1 := ⟨k - 1, by omega⟩
    simp only [spec_l02Is.l0]
    rw [if_neg (by omega), List.drop_of_length_le (by omega)]
    rfl
  | succ d ih =>
    intro k i hi hd hk
    obtain ⟨k, rfl⟩ : ∃ j, k = j + 1 := ⟨k - 1, by omega⟩
    have hil : i < T.length := by omega
    have e : T.drop i = T[i] :: T.drop (i + 1) := List.drop_eq_getElem_cons hil
    simp only [spec_l02Is.l0]
    rw [if_pos (by omega), if_pos (by omega), rdL T i hil, triangle_f _ hn _ k (by omega), e, List.all_cons]
    simp only [Option.bind_some]
    by_cases h : triB Q.length T[i] = true
    · rw [if_pos h, up i (by omega), ih k (i + 1) (by omega) (by omega) (by omega), h]; rfl
    · rw [if_neg h, Bool.eq_false_iff.2 h]; rfl

theorem is_f (Q : List S42) (T : List (List Int)) (k : Nat) (hk : 200 < k) : spec_l02Is.f k Q T = some (validB Q.length T) := by
  obtain ⟨k, rfl⟩ : ∃ j, k = j + 1 := ⟨k - 1, by omega⟩
  unfold spec_l02Is.f validB
  by_cases h1 : Q.length ≤ 64
  · rw [if_neg (by omega)]
    simp only [spec_l02Is.j0]
    by_cases h2 : T.length ≤ 128
    · rw [if_neg (by simp; omega)]
      have := is_loop Q T h1 h2 T.length k 0 (by omega) (by omega) (by omega)
      rw [show ((0 : Nat) : Int) = 0 from rfl] at this
      rw [this]
      simp [h1, h2]
    · rw [if_pos (by simp; omega)]
      simp [h2]
  · rw [if_pos (by omega)]
    simp only [spec_l02Is.j0]
    rw [if_pos trivial]
    simp [h1]

theorem vm_inner (T : List (List Int)) (n : Nat) (hn : n ≤ 64) (i : Nat) (t : List Int) (ht : t.length = 3) (d : Nat) : ∀ (k j : Nat), j ≤ 3 → 3 - j = d → d < k →
    ∃ k', k' + d + 1 = k ∧ impl_ValidMesh.l1 k (n : Int) T (T.length : Int) (i : Int) t (t.length : Int) (j : Int) = if (t.drop j).all (inB n) = true then impl_ValidMesh.l0 k' (n : Int) T (T.length : Int) (wrap64 ((i : Int) + 1)) else some false := by
  induction d with
  | zero =>
    intro k j hj hd hk
    obtain ⟨k, rfl⟩ : ∃ j, k = j + 1 := ⟨k - 1, by omega⟩
    refine ⟨k, by omega, ?_⟩
    simp only [impl_ValidMesh.l1]
    rw [if_neg (by omega), List.drop_of_length_le (by omega)]
    rfl
  | succ d ih =>
    intro k j hj hd hk
    obtain ⟨k, rfl⟩ : ∃ j, k = j + 1 := ⟨k - 1, by omega⟩
    have hjl : j < t.length := by omega
    obtain ⟨k', hk', h⟩ := ih k (j + 1) (by omega) (by omega) (by omega)
    refine ⟨k', by omega, ?_⟩
    have e : t.drop j = t[j] :: t.drop (j + 1) := List.drop_eq_getElem_cons hjl
    simp only [impl_ValidMesh.l1]
    rw [if_pos (by omega), if_pos (by omega), if_pos (by omega), rdI t j hjl, within_f n hn, e, List.all_cons]
    simp only [Option.bind_some]
    by_cases hb : inB n t[j] = true
    · rw [if_pos hb, up j (by omega), h, hb, Bool.true_and]
    · rw [if_neg hb, if_neg (by simp [hb])]

theorem vm_loop (n : Nat) (hn : n ≤ 64) (T : List (List Int)) (hT : T.length ≤ 128) (d : Nat) : ∀ (k i : Nat), i ≤ T.length → T.length - i = d → 10 * d + 5 < k → impl_ValidMesh.l0 k (n : Int) T (T.length : Int) (i : Int) = some ((T.drop i).all (triB n)) := by
  induction d with
  | zero =>
    intro k i hi hd hk
    obtain ⟨k, rfl⟩ : ∃ j, k = j + 1 := ⟨k - 1, by omega⟩
    simp only [impl_ValidMesh.l0]
    rw [if_neg (by omega), List.drop_of_length_le (by omega)]
    rfl
  | succ d ih =>
    intro k i hi hd hk
    obtain ⟨k, rfl⟩ : ∃ j, k = j + 2 := ⟨k - 2, by omega⟩
    have hil : i < T.length := by omega
    have e : T.drop i = T[i] :: T.drop (i + 1) := List.drop_eq_getElem_cons hil
    simp only [impl_ValidMesh.l0]
    rw [if_pos (by omega), if_pos (by omega), if_pos (by omega), rdL T i hil, e, List.all_cons]
    by_cases h3 : T[i].length = 3
    · rw [if_pos (by omega), if_pos (by omega), if_pos (by omega)]
      obtain ⟨k', hk', h1⟩ := vm_inner T n hn i T[i] h3 3 k 0 (by omega) (by omega) (by omega)
      have h0 := ih k' (i + 1) (by omega) (by omega) (by omega)
      rw [up i (by omega), h0, List.drop_zero] at h1
      rw [triB_rd n _ h3]
      generalize T[i] = t at *
      have h1' : impl_ValidMesh.l1 k (n : Int) T (T.length : Int) (i : Int) t (t.length : Int) 0 = if t.all (inB n) = true then some ((T.drop (i + 1)).all (triB n)) else some false := h1
      by_cases e1 : rd t 0 = rd t 1
      · rw [if_pos e1]
        simp [impl_ValidMesh.j2, e1]
      · rw [if_neg e1, if_pos (by omega)]
        by_cases e2 : rd t 1 = rd t 2
        · rw [if_pos e2]
          simp [impl_ValidMesh.j2, e2]
        · rw [if_neg e2]
          simp only [impl_ValidMesh.j2]
          by_cases e3 : rd t 0 = rd t 2
          · rw [if_pos (by simp [e3])]
            simp [e3]
          · rw [if_neg (by simp [e3]), h1']
            cases t.all (inB n) <;> simp [e1, e2, e3]
    · rw [if_neg (by omega)]
      simp only [impl_ValidMesh.j2]
      rw [if_pos trivial, triB_not h3]; rfl

theorem valid_f (Q : List S42) (T : List (List Int)) (k : Nat) (hk : 2000 < k) : impl_ValidMesh.f k Q T = some (validB Q.length T) := by
  obtain ⟨k, rfl⟩ : ∃ j, k = j + 1 := ⟨k - 1, by omega⟩
  unfold impl_ValidMesh.f validB
  by_cases h1 : Q.length ≤ 64
  · rw [if_neg (by omega)]
    simp only [impl_ValidMesh.j0]
    by_cases h2 : T.length ≤ 128
    · rw [if_neg (by simp; omega)]
      have := vm_loop Q.length h1 T h2 T.length k 0 (by omega) (by omega) (by omega)
      rw [show ((0 : Nat) : Int) = 0 from rfl] at this
      rw [this]
      simp [h1, h2]
    · rw [if_pos (by simp; omega)]
      simp [h2]
  · rw [if_pos (by omega)]
    simp only [impl_ValidMesh.j0]
    rw [if_pos trivial]
    simp [h1]
end Go.Proofs.Ytepilofcionekaa.Msh
namespace Go.Proofs.Ytepilofcionekaa
open Go.RowKit Go.Proofs.YtepilofcionekaaW.PrintWords Go.Proofs.Ytepilofcionekaa.PMesh Msh
set_option linter.unusedVariables false

/-- a, a + 1, .. -/
def marksA (a : Int) (n : Nat) : List Int := (List.range n).map fun t : Nat => a + (t : Int)
theorem marksA_len (a : Int) (n : Nat) : (marksA a n).length = n := by simp [marksA]
theorem marksA_get (a : Int) (n i : Nat) (h : i < (marksA a n).length) : (marksA a n)[i] = a + (i : Int) := by simp [marksA]

/-- The first i marked. -/
def partA (a : Int) (l : List Int) (i : Nat) : List Int := marksA a i ++ l.drop i
theorem partA_len (a : Int) (l : List Int) (i : Nat) (h : i ≤ l.length) : (partA a l i).length = l.length := by simp [partA, marksA]; omega
theorem partA_all (a : Int) (l : List Int) : partA a l l.length = marksA a l.length := by simp [partA]
theorem partA_set (a : Int) (l : List Int) (i : Nat) (h : i < l.length) : (partA a l i).set i (a + (i : Int)) = partA a l (i + 1) := by
  have e1 : marksA a (i + 1) = marksA a i ++ [a + (i : Int)] := by simp [marksA, List.range_succ]
  have e2 : l.drop i = l[i] :: l.drop (i + 1) := List.drop_eq_getElem_cons h
  have hm : (marksA a i).length = i := marksA_len a i
  unfold partA
  rw [e1, e2, List.set_append, if_neg (by omega), hm, Nat.sub_self, List.set_cons_zero, List.append_assoc]
  rfl

theorem mark_ints (v : Value) (l : List Int) (hl : l.length ≤ 1048576) (a : Int) (ha : 0 ≤ a) (ha1 : a ≤ 1152921504606846976) (w : World) (base : Nat) (h : w.ownsRow base 2 1 v l.length (encs (Value.int .i64) l)) :
    Calls Try.prog 31 #[v, .int .i64 a] w fun e w' => e = .returned (.int .i64 (a + (l.length : Int))) ∧ w'.ownsRow base 2 1 v l.length (encs (Value.int .i64) (marksA a l.length)) ∧ w.grownBy w' v.ownBlock := by
  by_cases h0 : l.length = 0
  · obtain rfl : l = [] := List.length_eq_zero_iff.1 h0
    obtain ⟨A, c, rfl⟩ := own_slice h
    have HO := Lib.hid h
    clear h h0 hl
    show Calls Try.prog 31 #[.slice A 0 c, .int .i64 a] w _
    go_enter Try.func31, Try.ntmps31
    go_wp2_with fail
    go_loopw [1, 5] (fun k i wr => wr = w ∧ k = .int .i64 a ∧ i = .int .i64 0) (fun _ _ _ => 0)
    case atStart => exact ⟨rfl, rfl, rfl⟩
    case round =>
      obtain ⟨rfl, rfl, rfl⟩ := hrel
      go_wp2_with fail
      go_ret
      exact ⟨by simp, HO.out, World.grownBy.refl _ _⟩
  · obtain ⟨g, c, rfl, hgb, hgl⟩ := h.form (by omega)
    have HO := Lib.hid h
    clear h
    go_enter Try.func31, Try.ntmps31
    go_wp2_with fail
    go_loopw [1, 5] (fun k i wr => ∃ j : Nat, j ≤ l.length ∧ k = .int .i64 (a + (j : Int)) ∧ i = .int .i64 (j : Int) ∧ Hid (wr.ownsRow base 2 1 (.slice (some ⟨g, 0, none⟩) l.length c) l.length (encs (Value.int .i64) (partA a l j))) ∧ w.grownBy wr (some g)) (fun _ i _ => l.length - (intOf i).toNat)
    case atStart => exact ⟨0, Nat.zero_le _, by simp, rfl, by exact HO.out, World.grownBy.refl _ _⟩
    case round =>
      obtain ⟨j, hj, rfl, rfl, hO, hg⟩ := hrel
      by_cases hlt : j < l.length
      · have b1 : (j : Int) < (l.length : Int) := by omega
        have b2 : (0 : Int) ≤ (j : Int) := by omega
        have b3 : (j : Int) < 1048576 := by omega
        obtain ⟨hcell, hfr⟩ := own_at_of (d := (0 : Int)) hO.out (j : Int) b2 b1
        obtain ⟨hst, hgs⟩ := own_store_of (enc := Value.int .i64) hO.out (j : Int) (a + (j : Int))
        rw [Int.toNat_natCast] at hcell hfr hst hgs
        rw [partA_set a l j hlt] at hst
        have HST := Lib.hid hst
        have HGS := Lib.hid hgs
        clear hst hgs
        go_wp2_with fail
        go_roundw
        case rel => exact ⟨j + 1, hlt, by first | rfl | (congr 1; omega) | (simp; omega), by simp, by exact HST.out, World.grownBy.trans hg HGS.out⟩
        case measure => simp [intOf]; omega
      · obtain rfl : j = l.length := by omega
        go_wp2_with fail
        go_ret
        refine ⟨rfl, ?_, hg⟩
        have := hO.out
        rw [partA_all] at this
        exact this

theorem held_loopA (a : Int) (ha : 0 ≤ a) (ha1 : a ≤ 1152921504606846976) (n : Nat) (hl : n ≤ 1048576) (d : Nat) : ∀ (k i : Nat), i ≤ n → n - i = d → d < k → laws_heldInt64S.l0 k (marksA a n) (a + (i : Int)) (i : Int) = some (a + (n : Int)) := by
  have hml := marksA_len a n
  induction d with
  | zero =>
    intro k i hi hd hk
    obtain ⟨k, rfl⟩ : ∃ j, k = j + 1 := ⟨k - 1, by omega⟩
    obtain rfl : i = n := by omega
    simp only [laws_heldInt64S.l0]
    rw [if_neg (by omega)]
  | succ d ih =>
    intro k i hi hd hk
    obtain ⟨k, rfl⟩ : ∃ j, k = j + 1 := ⟨k - 1, by omega⟩
    simp only [laws_heldInt64S.l0]
    rw [if_pos (by omega), if_pos (by omega), rdI _ i (by omega), marksA_get, if_pos (by omega), Msh.wrap_fit (by omega) (by omega), up i (by omega), show a + (i : Int) + 1 = a + ((i + 1 : Nat) : Int) by omega]
    exact ih k (i + 1) (by omega) (by omega) (by omega)

theorem held_fA (a : Int) (ha : 0 ≤ a) (ha1 : a ≤ 1152921504606846976) (n : Nat) (hl : n ≤ 1048576) : laws_heldInt64S.f 1048577 (marksA a n) a = some (a + (n : Int)) := by
  unfold laws_heldInt64S.f
  have := held_loopA a ha ha1 n hl n 1048577 0 (by omega) (by omega) (by omega)
  rw [show a + ((0 : Nat) : Int) = a by omega] at this
  exact this

/-- Blocks from a up to b. -/
def In (a b : Nat) (k : Nat) : Prop := a ≤ k ∧ k < b

/-- What was made from base on lies from base up to the world's size. -/
theorem R_in {α : Type} {d : Kd α} {e base : Nat} {w : World} {v : Value} {xs : List α} {ok : Nat → Prop} (h : d.R e w base ok v xs) : d.R e w base (In base w.heap.size) v xs := Kd.R_mono (Kd.R_bound h) (fun k hk => ⟨hk.2.1, hk.2.2.1⟩)
theorem S_in {α : Type} {d : Kd α} {e base : Nat} {w : World} {v : Value} {xs : List α} {ok : Nat → Prop} (h : Kd.S d e w base ok v xs) : Kd.S d e w base (In base w.heap.size) v xs := Kd.S_mono (Kd.S_bound h) (fun k hk => ⟨hk.2.1, hk.2.2.1⟩)

theorem In_off {a b c d : Nat} (h : b ≤ c ∨ d ≤ a) : ∀ k, In a b k → ¬ In c d k := fun k h1 h2 => by unfold In at h1 h2; omega

/-- A grown row of the range: what is not in the range stays. -/
theorem kept_grown {w w' : World} {a b : Nat} {row : Option Nat} (h : w.grownBy w' row) (hr : ∀ k, row = some k → In a b k) : Kept w w' (In a b) := ⟨h.size, fun i hi hn => h.block i hi (fun e => hn (hr i e.symm))⟩
end Go.Proofs.Ytepilofcionekaa
namespace Go.Proofs.Ytepilofcionekaa
open Go.RowKit Go.Proofs.YtepilofcionekaaW.PrintWords Go.Proofs.Ytepilofcionekaa.PMesh Msh
set_option linter.unusedVariables false

/-- How many numbers rows hold. -/
def tot : List (List Int) → Nat
  | [] => 0
  | t :: r => t.length + tot r
/-- Rows marked, from a on. -/
def marksT (a : Int) : List (List Int) → List (List Int)
  | [] => []
  | t :: r => marksA a t.length :: marksT (a + (t.length : Int)) r

theorem tot_append (x y : List (List Int)) : tot (x ++ y) = tot x + tot y := by
  induction x with
  | nil => simp [tot]
  | cons t r ih => simp [tot, ih]; omega
theorem marksT_append (x y : List (List Int)) : ∀ a, marksT a (x ++ y) = marksT a x ++ marksT (a + (tot x : Int)) y := by
  induction x with
  | nil => intro a; simp [tot, marksT]
  | cons t r ih =>
    intro a
    simp only [List.cons_append, marksT, tot, ih]
    congr 3
    omega
theorem marksT_len (x : List (List Int)) : ∀ a, (marksT a x).length = x.length := by
  induction x with
  | nil => intro a; rfl
  | cons t r ih => intro a; simp [marksT, ih]
theorem tot_le (T : List (List Int)) (hr : ∀ t ∈ T, t.length ≤ 1048576) : tot T ≤ T.length * 1048576 := by
  induction T with
  | nil => simp [tot]
  | cons t r ih =>
    have h1 := hr t List.mem_cons_self
    have h2 := ih (fun x hx => hr x (List.mem_cons_of_mem _ hx))
    simp only [tot, List.length_cons]
    omega
theorem tot_take (T : List (List Int)) (j : Nat) : tot (T.take j) ≤ tot T := by
  have := tot_append (T.take j) (T.drop j)
  rw [List.take_append_drop] at this
  omega

/-- The first j rows marked. -/
def partT (a : Int) (T : List (List Int)) (j : Nat) : List (List Int) := marksT a (T.take j) ++ T.drop j
theorem partT_zero (a : Int) (T : List (List Int)) : partT a T 0 = T := by simp [partT, marksT]
theorem partT_all (a : Int) (T : List (List Int)) : partT a T T.length = marksT a T := by simp [partT]
theorem partT_len (a : Int) (T : List (List Int)) (j : Nat) (h : j ≤ T.length) : (partT a T j).length = T.length := by simp [partT, marksT_len]; omega
theorem partT_get (a : Int) (T : List (List Int)) (j : Nat) (h : j < T.length) : (partT a T j).getD j [] = T[j] := by
  have hl : (marksT a (T.take j)).length = j := by rw [marksT_len, List.length_take]; omega
  unfold partT
  rw [List.getD_eq_getElem?_getD, List.getElem?_append_right (by omega), hl, Nat.sub_self, List.drop_eq_getElem_cons h]
  rfl
theorem partT_set (a : Int) (T : List (List Int)) (j : Nat) (h : j < T.length) : (partT a T j).set j (marksA (a + (tot (T.take j) : Int)) T[j].length) = partT a T (j + 1) := by
  have hl : (marksT a (T.take j)).length = j := by rw [marksT_len, List.length_take]; omega
  have e2 : T.drop j = T[j] :: T.drop (j + 1) := List.drop_eq_getElem_cons h
  unfold partT
  rw [List.take_succ_eq_append_getElem h, marksT_append, e2, List.set_append, if_neg (by omega), hl, Nat.sub_self, List.set_cons_zero, List.append_assoc]
  rfl
theorem tot_succ (T : List (List Int)) (j : Nat) (h : j < T.length) : tot (T.take (j + 1)) = tot (T.take j) + T[j].length := by
  rw [List.take_succ_eq_append_getElem h, tot_append]
  simp [tot]

set_option maxHeartbeats 1000000 in
set_option maxRecDepth 100000 in
theorem mark_rows (v : Value) (T : List (List Int)) (hT : T.length ≤ 1048576) (hr : ∀ t ∈ T, t.length ≤ 1048576) (a : Int) (ha : 0 ≤ a) (ha1 : a ≤ 17592186044416) (w : World) (base : Nat) (ok : Nat → Prop) (b0 : Nat) (w0 : World) (K : Below b0 w0 w) (hb0 : b0 ≤ base) (hbw : b0 ≤ w.heap.size)
    (h : Kd.S (Kd.slice 2 (Kd.int .i64)) 56 w base ok v T) :
    Calls Try.prog 64 #[v, .int .i64 a] w fun e w' => e = .returned (.int .i64 (a + (tot T : Int))) ∧ Kd.S (Kd.slice 2 (Kd.int .i64)) 56 w' base ok v (marksT a T) ∧ Kept w w' ok ∧ Below b0 w0 w' := by
  have htot := tot_le T hr
  have htot2 : T.length * 1048576 ≤ 1099511627776 := by omega
  by_cases h0 : T.length = 0
  · obtain rfl : T = [] := List.length_eq_zero_iff.1 h0
    obtain ⟨A, c, rfl⟩ := Kd.S_slice h
    have HS := Lib.hid h
    have HK := Lib.hid K
    clear h h0 hT hr K htot htot2
    show Calls Try.prog 64 #[.slice A 0 c, .int .i64 a] w _
    go_enter Try.func64, Try.ntmps64
    go_wp2_with fail
    go_loopw [1, 5] (fun k i wr => wr = w ∧ k = .int .i64 a ∧ i = .int .i64 0) (fun _ _ _ => 0)
    case atStart => exact ⟨rfl, rfl, rfl⟩
    case round =>
      obtain ⟨rfl, rfl, rfl⟩ := hrel
      go_wp2_with fail
      go_ret
      exact ⟨by simp [tot], HS.out, Kept.refl _ _, HK.out⟩
  · obtain ⟨g, c, rfl, hgb, hgl, _⟩ := Kd.S_form h (by omega)
    have HS := Lib.hid h
    have HK := Lib.hid K
    have HR := Lib.hid hr
    clear h K hr hgb hgl
    go_enter Try.func64, Try.ntmps64
    go_wp2_with fail
    go_loopw [1, 5] (fun k i wr => ∃ (j : Nat) (q : Int), j ≤ T.length ∧ k = .int .i64 q ∧ Hid (q = a + (tot (T.take j) : Int)) ∧ i = .int .i64 (j : Int) ∧ Hid (Kd.S (Kd.slice 2 (Kd.int .i64)) 56 wr base ok (.slice (some ⟨g, 0, none⟩) T.length c) (partT a T j)) ∧ Hid (Kept w wr ok) ∧ Hid (Below b0 w0 wr)) (fun _ i _ => T.length - (intOf i).toNat)
    case atStart => exact ⟨0, a, Nat.zero_le _, rfl, by exact Lib.hid (by simp [tot]), rfl, by rw [partT_zero]; exact HS, Lib.hid (Kept.refl _ _), HK⟩
    case round =>
      obtain ⟨j, q, hj, rfl, hq, rfl, hS, hKe, hB⟩ := hrel
      by_cases hlt : j < T.length
      · have b1 : (j : Int) < (T.length : Int) := by omega
        have b2 : (0 : Int) ≤ (j : Int) := by omega
        have b3 : (j : Int) < 1048576 := by omega
        obtain ⟨oki, cc, hcl, hM, hcc, hoki, hbk⟩ := Kd.S_borrow hS.out [] (j : Int) b2 (by omega)
        rw [Int.toNat_natCast, partT_get a T j hlt] at hM
        rw [Int.toNat_natCast] at hcc hbk
        obtain ⟨vi, rfl, hR⟩ := hM
        have hcell := hcc 0 _ rfl
        rw [show (Kd.slice 2 (Kd.int .i64)).sz = 1 from rfl, Nat.mul_one, Nat.add_zero, add_at, Nat.zero_add] at hcell
        obtain ⟨Ai, ci, rfl⟩ := Kd.R_slice hR
        have hlen := HR.out T[j] (List.getElem_mem hlt)
        have htk := tot_take T j
        have hq0 := hq.out
        have hqb : 0 ≤ q ∧ q ≤ 35184372088832 := by omega
        have hqs : q + (T[j].length : Int) = a + (tot (T.take (j + 1)) : Int) := by rw [tot_succ T j hlt]; omega
        have hstep : ∀ (w2 : World), w2.ownsRow base 2 1 (.slice Ai T[j].length ci) T[j].length (encs (Value.int .i64) (marksA q T[j].length)) → wr.grownBy w2 (Value.slice Ai T[j].length ci).ownBlock → Kd.S (Kd.slice 2 (Kd.int .i64)) 56 w2 base ok (.slice (some ⟨g, 0, none⟩) T.length c) (partT a T (j + 1)) ∧ Kept w w2 ok ∧ Below b0 w0 w2 := by
          intro w2 ho hg
          have hin : ∀ k, (Value.slice Ai T[j].length ci).ownBlock = some k → oki k := fun k hk => hR.1 k hk
          refine ⟨?_, Kept.of_grown hg hKe.out (fun k hk => .inl (hoki k (hin k hk)).1), Below.grown hB.out hg (Nat.le_trans hbw hKe.out.1) (fun k hk => Nat.le_trans hb0 (own_base (Kd.own_of_R hR) k hk))⟩
          have := hbk (x' := marksA q T[j].length) hg hin ⟨_, rfl, Kd.R_of_own (by rw [marksA_len]; exact ho) hin⟩
          rw [hq0, partT_set a T j hlt] at this
          exact this
        have HST := Lib.hid hstep
        have HRR := Lib.hid (Kd.own_of_R hR)
        have HQS := Lib.hid hqs
        have hl1 : T[j].length ≤ 1048576 := hlen
        clear hstep hR hcc hbk hq0 hqs hoki hcl hlen htk hq htot htot2 hT ha ha1
        obtain ⟨hq1, hq2⟩ := hqb
        generalize T[j] = t at *
        go_wp2_with (first | (go_at_call 31; refine (mark_ints _ t hl1 q hq1 (by omega) _ base HRR.out).mono ?_; rintro e w2 ⟨rfl, ho, hg⟩; have HN := Lib.hid (HST.out w2 ho hg); clear ho hg) | fail)
        go_roundw
        case rel => exact ⟨j + 1, q + (t.length : Int), hlt, rfl, HQS, by simp, Lib.hid HN.out.1, Lib.hid HN.out.2.1, Lib.hid HN.out.2.2⟩
        case measure => simp [intOf]; omega
      · obtain rfl : j = T.length := by omega
        have hfin := hS.out
        rw [partT_all] at hfin
        have hqf := hq.out
        rw [List.take_length] at hqf
        have HF := Lib.hid hfin
        have HQ := Lib.hid hqf
        clear hfin hqf hS hq
        go_wp2_with fail
        go_ret
        exact ⟨by rw [HQ.out]; rfl, HF.out, hKe.out, hB.out⟩

end Go.Proofs.Ytepilofcionekaa
namespace Go.Proofs.Ytepilofcionekaa.Msh
open Fl Go.RowKit Go.Proofs.YtepilofcionekaaW.PrintWords Go.Proofs.Ytepilofcionekaa.PMesh
set_option linter.unusedVariables false

/-- What is known of a mesh that comes in. -/
structure MeshOk (L : List S122) (T : List (List Int)) : Prop where
  lp : L.length ≤ 9223372036854775807
  lt : T.length ≤ 9223372036854775807
  lr : ∀ t ∈ T, t.length ≤ 9223372036854775807
  fl : ∀ x ∈ L, x.f0 < 4294967296 ∧ x.f1 < 4294967296 ∧ x.f2 < 4294967296

theorem map_ok {L : List S122} (h : ∀ x ∈ L, x.f0 < 4294967296 ∧ x.f1 < 4294967296 ∧ x.f2 < 4294967296) : ∀ x ∈ L.map toV, okV x := by
  intro x hx
  obtain ⟨y, hy, rfl⟩ := List.mem_map.1 hx
  exact h y hy

end Go.Proofs.Ytepilofcionekaa.Msh
namespace Go.Proofs.Ytepilofcionekaa
open Go.RowKit Go.Proofs.YtepilofcionekaaW.PrintWords Go.Proofs.Ytepilofcionekaa.PMesh Msh

end Go.Proofs.Ytepilofcionekaa
namespace Go.Proofs.Ytepilofcionekaa
open Go.RowKit Go.Proofs.YtepilofcionekaaW.PrintWords Go.Proofs.Ytepilofcionekaa.PMesh Msh
set_option linter.unusedVariables false

/-- A mesh of the call's own, its blocks from a up to b. -/
def OwnM (w : World) (a b : Nat) (vP vT : Value) (P : List S42) (T : List (List Int)) : Prop :=
  Kd.R k42 42 w a (In a b) vP P ∧ Kd.S (Kd.slice 2 (Kd.int .i64)) 56 w a (In a b) vT T
/-- A row of numbers of the call's own. -/
def OwnI (w : World) (a b : Nat) (v : Value) (l : List Int) : Prop := Kd.R (Kd.int .i64) 2 w a (In a b) v l
/-- A mesh that came in, as it can be read from w on. -/
def CameM (w : World) (A : Option Addr) (c : Nat) (L : List S122) (B : Option Addr) (e : Nat) (T : List (List Int)) : Prop :=
  Kd.C k122 w A L.length L ∧ L.length ≤ c ∧ Kd.C (Kd.slice 2 (Kd.int .i64)) w B T.length T ∧ T.length ≤ e

section
variable {w w' w0 : World} {a b c d b0 : Nat} {v vP vT : Value} {P : List S42} {T : List (List Int)} {l : List Int}
theorem OwnM.below (h : OwnM w a b vP vT P T) (hb : Below w.heap.size w w') : OwnM w' a b vP vT P T := ⟨Kd.R_below h.1 hb, Kd.S_below h.2 hb⟩
theorem OwnM.drawn (h : OwnM w a b vP vT P T) (hd : Drawn0 w w') : OwnM w' a b vP vT P T := h.below hd.below
theorem OwnM.kept (h : OwnM w a b vP vT P T) (hk : Kept w w' (In c d)) (ho : b ≤ c ∨ d ≤ a) : OwnM w' a b vP vT P T := ⟨Kd.R_kept h.1 hk (In_off ho), Kd.S_kept h.2 hk (In_off ho)⟩
theorem OwnI.below (h : OwnI w a b v l) (hb : Below w.heap.size w w') : OwnI w' a b v l := Kd.R_below h hb
theorem OwnI.drawn (h : OwnI w a b v l) (hd : Drawn0 w w') : OwnI w' a b v l := h.below hd.below
theorem OwnI.kept (h : OwnI w a b v l) (hk : Kept w w' (In c d)) (ho : b ≤ c ∨ d ≤ a) : OwnI w' a b v l := Kd.R_kept h hk (In_off ho)
theorem OwnM.C {A B : Option Addr} {n m e f : Nat} (h : OwnM w a b (.slice A n e) (.slice B m f) P T) : Kd.C k42 w A P.length P ∧ P.length ≤ e ∧ Kd.C (Kd.slice 2 (Kd.int .i64)) w B T.length T ∧ T.length ≤ f := by
  obtain ⟨h1, h2, h3⟩ := Kd.R_reads' h.1
  obtain ⟨h4, h5, h6⟩ := Kd.S_reads' h.2
  exact ⟨h3, by omega, h6, by omega⟩
theorem OwnI.C {A : Option Addr} {n e : Nat} (h : OwnI w a b (.slice A n e) l) : Kd.C (Kd.int .i64) w A l.length l ∧ l.length ≤ e := by
  obtain ⟨h1, h2, h3⟩ := Kd.R_reads' h
  exact ⟨h3, by omega⟩
theorem CameM.below {A B : Option Addr} {c e : Nat} {L : List S122} (h : CameM w A c L B e T) (hb : Below w.heap.size w w') : CameM w' A c L B e T := ⟨Kd.C_below h.1 hb, h.2.1, Kd.C_below h.2.2.1 hb, h.2.2.2⟩
theorem Drawn0.sized (h : Drawn0 w w') : w'.heap.size = w.heap.size := by obtain ⟨m, rfl⟩ := h; rfl
theorem below_then (h : Below b0 w0 w) (hb : Below w.heap.size w w') (hw : b0 ≤ w.heap.size) : Below b0 w0 w' := h.trans (hb.mono hw)
end

/-- A variable that holds a mesh: its block. -/
def BoxAt (W : World) (g : Nat) (t : TypeId) (u v : Value) : Prop := W.heap[g]? = some (.cells #[u, v] t (0, 0))
section
variable {W W' : World} {g c d : Nat} {t : TypeId} {u v : Value}
theorem BoxAt.below (h : BoxAt W g t u v) (hb : Below W.heap.size W W') : BoxAt W' g t u v := (hb.block g (blk_lt h)).trans h
theorem BoxAt.drawn (h : BoxAt W g t u v) (hd : Drawn0 W W') : BoxAt W' g t u v := h.below hd.below
theorem BoxAt.kept (h : BoxAt W g t u v) (hk : Kept W W' (In c d)) (ho : g < c ∨ d ≤ g) : BoxAt W' g t u v := blk_kept h hk (fun hi => by unfold In at hi; omega)
theorem BoxAt.new (W : World) (t : TypeId) (u v : Value) : BoxAt (W.alloc (.cells #[u, v] t)) W.heap.size t u v := heap_alloc_new W _
theorem BoxAt.c0 (h : BoxAt W g t u v) : W.cell? ⟨g, 0, none⟩ = some u := (blk_cell h 0).trans rfl
theorem BoxAt.c1 (h : BoxAt W g t u v) : W.cell? ⟨g, 1, none⟩ = some v := (blk_cell h 1).trans rfl
theorem BoxAt.lt (h : BoxAt W g t u v) : g < W.heap.size := blk_lt h
theorem keep4 {g1 g2 : Nat} {t1 t2 : TypeId} {u1 v1 u2 v2 : Value} {R : World → Prop} (hR : ∀ W W', R W → Below W.heap.size W W' → R W') (hb : Below W.heap.size W W')
    (h : W.cell? ⟨g1, 0, none⟩ = some u1 ∧ W.cell? ⟨g1, 1, none⟩ = some v1 ∧ W.cell? ⟨g2, 0, none⟩ = some u2 ∧ W.cell? ⟨g2, 1, none⟩ = some v2 ∧ BoxAt W g1 t1 u1 v1 ∧ BoxAt W g2 t2 u2 v2 ∧ R W) :
    W'.cell? ⟨g1, 0, none⟩ = some u1 ∧ W'.cell? ⟨g1, 1, none⟩ = some v1 ∧ W'.cell? ⟨g2, 0, none⟩ = some u2 ∧ W'.cell? ⟨g2, 1, none⟩ = some v2 ∧ BoxAt W' g1 t1 u1 v1 ∧ BoxAt W' g2 t2 u2 v2 ∧ R W' := by
  obtain ⟨_, _, _, _, b1, b2, r⟩ := h
  have c1 := b1.below hb
  have c2 := b2.below hb
  exact ⟨c1.c0, c1.c1, c2.c0, c2.c1, c1, c2, hR _ _ r hb⟩
theorem keep4d {g1 g2 : Nat} {t1 t2 : TypeId} {u1 v1 u2 v2 : Value} {R : World → Prop} (hR : ∀ W W', R W → Below W.heap.size W W' → R W')
    (h : W.cell? ⟨g1, 0, none⟩ = some u1 ∧ W.cell? ⟨g1, 1, none⟩ = some v1 ∧ W.cell? ⟨g2, 0, none⟩ = some u2 ∧ W.cell? ⟨g2, 1, none⟩ = some v2 ∧ BoxAt W g1 t1 u1 v1 ∧ BoxAt W g2 t2 u2 v2 ∧ R W) :
    W.drew.cell? ⟨g1, 0, none⟩ = some u1 ∧ W.drew.cell? ⟨g1, 1, none⟩ = some v1 ∧ W.drew.cell? ⟨g2, 0, none⟩ = some u2 ∧ W.drew.cell? ⟨g2, 1, none⟩ = some v2 ∧ BoxAt W.drew g1 t1 u1 v1 ∧ BoxAt W.drew g2 t2 u2 v2 ∧ R W.drew := keep4 hR (Below.drew (Below.refl _ _)) h
theorem rest4 {g1 g2 : Nat} {t1 t2 : TypeId} {u1 v1 u2 v2 : Value} {R : World → Prop}
    (h : W.cell? ⟨g1, 0, none⟩ = some u1 ∧ W.cell? ⟨g1, 1, none⟩ = some v1 ∧ W.cell? ⟨g2, 0, none⟩ = some u2 ∧ W.cell? ⟨g2, 1, none⟩ = some v2 ∧ BoxAt W g1 t1 u1 v1 ∧ BoxAt W g2 t2 u2 v2 ∧ R W) : R W := h.2.2.2.2.2.2
end

/-- Small meshes: what the laws' bound on sizes leaves. -/
def SmallM (L : List S122) (T : List (List Int)) : Prop := L.length ≤ 1048576 ∧ T.length ≤ 1048576 ∧ (∀ t ∈ T, t.length ≤ 1048576)

theorem sz_step (w W : World) (A : Option Addr) (c : Nat) (L : List S122) (B : Option Addr) (e : Nat) (T : List (List Int)) (h : CameM w A c L B e T) (ok : MeshOk L T) (a : Int) (ha : 0 ≤ a) (ha1 : a ≤ 1048576) :
    ∃ r : Int, (0 ≤ r → SmallM L T) ∧ r ≤ 1048576 ∧ ∀ W, Below w.heap.size w W → Calls Try.prog 24 #[.agg #[.slice A L.length c, .slice B T.length e], .int .i64 a] W fun e w' => e = .returned (.int .i64 r) ∧ Below W.heap.size W w' := by
  obtain ⟨r, hr, hr1, hs⟩ := szMesh_f L T ok.lp ok.lt ok.lr 1048578 (by omega) a ha ha1
  refine ⟨r, fun h0 => hs h0, hr1, fun W hb => ?_⟩
  have h' := h.below hb
  exact laws_szMesh.calls 1048578 A c L B e T a r W h'.1 h'.2.1 h'.2.2.1 h'.2.2.2 hr

theorem to_step (w : World) (A : Option Addr) (c : Nat) (L : List S122) (B : Option Addr) (e : Nat) (T : List (List Int)) (h : CameM w A c L B e T) (hs : SmallM L T) (P : List S42) (hP : P = L.map toV) :
    ∀ W, Below w.heap.size w W → Calls Try.prog 26 #[.agg #[.slice A L.length c, .slice B T.length e]] W fun E w' => ∃ A' c' B' e', E = .returned (.agg #[.slice A' P.length c', .slice B' T.length e']) ∧ OwnM w' W.heap.size w'.heap.size (.slice A' P.length c') (.slice B' T.length e') P T ∧ Below W.heap.size W w' ∧ Below w.heap.size w w' := by
  intro W hb
  have h' := h.below hb
  have hf := toMesh_f L T hs.1 hs.2.1 hs.2.2 2097156 (by omega)
  rw [← hP] at hf
  refine (laws_toMesh.calls 2097156 A c L B e T P T W h'.1 h'.2.1 h'.2.2.1 h'.2.2.2 hf).mono ?_
  rintro E w' ⟨v0, v1, rfl, hR, hS, hbw⟩
  obtain ⟨A', c', rfl⟩ := Kd.R_slice hR
  obtain ⟨B', e', rfl⟩ := Kd.S_slice hS
  exact ⟨A', c', B', e', rfl, ⟨R_in hR, S_in hS⟩, hbw, below_then hb hbw hb.size⟩

theorem eq_step (P P' : List S42) (T : List (List Int)) (hp : simP P P') (h1 : P.length ≤ 1048576) (h2 : T.length ≤ 1048576) (h3 : ∀ t ∈ T, t.length ≤ 1048576) (W : World) (A A' B B' : Option Addr) (n n' c c' m m' e e' a b a' b' : Nat)
    (x : OwnM W a b (.slice A P.length c) (.slice B T.length e) P T) (y : OwnM W a' b' (.slice A' P'.length c') (.slice B' T.length e') P' T) :
    Calls Try.prog 21 #[.agg #[.slice A P.length c, .slice B T.length e], .agg #[.slice A' P'.length c', .slice B' T.length e']] W fun E w' => E = .returned (.bool true) ∧ Below W.heap.size W w' :=
  laws_eqMesh.calls 2097156 A c P B e T A' c' P' B' e' T true W x.C.1 x.C.2.1 x.C.2.2.1 x.C.2.2.2 y.C.1 y.C.2.1 y.C.2.2.1 y.C.2.2.2 (eqMesh_f P P' T hp h1 h2 h3 _ (by omega))

theorem eqI_step (l : List Int) (h1 : l.length ≤ 1048576) (W : World) (A A' : Option Addr) (c c' a b a' b' : Nat) (x : OwnI W a b (.slice A l.length c) l) (y : OwnI W a' b' (.slice A' l.length c') l) :
    Calls Try.prog 30 #[.slice A l.length c, .slice A' l.length c'] W fun E w' => E = .returned (.bool true) ∧ Drawn0 W w' :=
  laws_eqInt64S.calls 1048578 A c l A' c' l true W x.C.1 x.C.2 y.C.1 y.C.2 (eqI_f l h1 _ (by omega))

theorem markI_step (l : List Int) (h1 : l.length ≤ 1048576) (q : Int) (hq : 0 ≤ q) (hq1 : q ≤ 1099511627776) (W : World) (A : Option Addr) (c a b : Nat) (x : OwnI W a b (.slice A l.length c) l) (b0 : Nat) (w0 : World) (K : Below b0 w0 W) (hb0 : b0 ≤ a) (hbw : b0 ≤ W.heap.size) :
    Calls Try.prog 31 #[.slice A l.length c, .int .i64 q] W fun E w' => E = .returned (.int .i64 (q + (l.length : Int))) ∧ OwnI w' a b (.slice A l.length c) (marksA q l.length) ∧ Kept W w' (In a b) ∧ Below b0 w0 w' := by
  refine (mark_ints _ l h1 q hq (by omega) W a (Kd.own_of_R x)).mono ?_
  rintro E w' ⟨rfl, ho, hg⟩
  exact ⟨rfl, Kd.R_of_own (by rw [marksA_len]; exact ho) (fun k hk => x.1 k hk), kept_grown hg (fun k hk => x.1 k hk), Below.grown K hg hbw (fun k hk => Nat.le_trans hb0 (x.1 k hk).1)⟩

theorem heldI_step (n : Nat) (h1 : n ≤ 1048576) (q : Int) (hq : 0 ≤ q) (hq1 : q ≤ 1099511627776) (W : World) (A : Option Addr) (c a b : Nat) (x : OwnI W a b (.slice A n c) (marksA q n)) :
    Calls Try.prog 32 #[.slice A n c, .int .i64 q] W fun E w' => E = .returned (.int .i64 (q + (n : Int))) ∧ Drawn0 W w' := by
  have hl := marksA_len q n
  have h := laws_heldInt64S.calls 1048577 A c (marksA q n) q (q + (n : Int)) W x.C.1 x.C.2 (held_fA q hq (by omega) n h1)
  rw [hl] at h
  exact h

theorem own_rebase {w : World} {base base' : Nat} {e : TypeId} {size n : Nat} {v : Value} {xs : List Value} (h : w.ownsRow base e size v n xs) (hb : ∀ k, v.ownBlock = some k → base' ≤ k) : w.ownsRow base' e size v n xs := by
  obtain ⟨h1, h2⟩ := h
  refine ⟨h1, ?_⟩
  rcases h2 with h2 | ⟨g, cap, cur, rfl, hg, r⟩
  · exact .inl h2
  · exact .inr ⟨g, cap, cur, rfl, hb g rfl, r⟩

/-- A vector of three marks. -/
def mkV (q : Int) : S42 := ⟨floatOfInt .f32 q, floatOfInt .f32 (q + 1), floatOfInt .f32 (q + 2)⟩
def marksV (q : Int) (n : Nat) : List S42 := (List.range n).map fun t : Nat => mkV (q + 3 * (t : Int))
theorem marksV_len (q : Int) (n : Nat) : (marksV q n).length = n := by simp [marksV]
theorem marksV_get (q : Int) (n i : Nat) (h : i < (marksV q n).length) : (marksV q n)[i] = mkV (q + 3 * (i : Int)) := by simp [marksV]
def partV (q : Int) (l : List S42) (i : Nat) : List S42 := marksV q i ++ l.drop i
theorem partV_len (q : Int) (l : List S42) (i : Nat) (h : i ≤ l.length) : (partV q l i).length = l.length := by simp [partV, marksV_len]; omega
theorem partV_all (q : Int) (l : List S42) : partV q l l.length = marksV q l.length := by simp [partV]
theorem partV_set (q : Int) (l : List S42) (i : Nat) (h : i < l.length) : (partV q l i).set i (mkV (q + 3 * (i : Int))) = partV q l (i + 1) := by
  have e1 : marksV q (i + 1) = marksV q i ++ [mkV (q + 3 * (i : Int))] := by simp [marksV, List.range_succ]
  have e2 : l.drop i = l[i] :: l.drop (i + 1) := List.drop_eq_getElem_cons h
  have hm : (marksV q i).length = i := marksV_len q i
  unfold partV
  rw [e1, e2, List.set_append, if_neg (by omega), hm, Nat.sub_self, List.set_cons_zero, List.append_assoc]
  rfl
theorem rd_set (Q : List S42) (i : Nat) (h : i < Q.length) (x : S42) : rd_T42 (Q.set i x) (i : Int) = x := by
  rw [rdV _ _ (by rw [List.length_set]; exact h), List.getElem_set_self]

theorem markV_loop (P : List S42) (q : Int) (h0 : 0 ≤ q) (hq : q ≤ 8796093022208) (hP : P.length ≤ 1048576) (d : Nat) : ∀ (k i : Nat), i ≤ P.length → P.length - i = d → d < k → laws_markVectorS.l0 k (partV q P i) (q + 3 * (i : Int)) (i : Int) = some (q + 3 * (P.length : Int), marksV q P.length) := by
  induction d with
  | zero =>
    intro k i hi hd hk
    obtain ⟨k, rfl⟩ : ∃ j, k = j + 1 := ⟨k - 1, by omega⟩
    have hl := partV_len q P i hi
    obtain rfl : i = P.length := by omega
    simp only [laws_markVectorS.l0]
    rw [if_neg (by omega), partV_all]
  | succ d ih =>
    intro k i hi hd hk
    obtain ⟨k, rfl⟩ : ∃ j, k = j + 1 := ⟨k - 1, by omega⟩
    have hl := partV_len q P i hi
    have hil : i < (partV q P i).length := by omega
    simp only [laws_markVectorS.l0]
    rw [if_pos (by omega), if_pos (by omega)]
    simp only [Option.bind_some]
    rw [Msh.wrap_fit (x := q + 3 * (i : Int) + 1) (by omega) (by omega), Msh.wrap_fit (x := q + 3 * (i : Int) + 1 + 1) (by omega) (by omega), Msh.wrap_fit (x := q + 3 * (i : Int) + 1 + 1 + 1) (by omega) (by omega), up i (by omega), Int.toNat_natCast]
    simp only [List.set_set, rd_set _ _ hil]
    have e := ih k (i + 1) (by omega) (by omega) (by omega)
    rw [← partV_set q P i (by omega)] at e
    rw [show q + 3 * (i : Int) + 1 + 1 + 1 = q + 3 * ((i + 1 : Nat) : Int) by omega, show q + 3 * (i : Int) + 1 + 1 = q + 3 * (i : Int) + 2 by omega]
    exact e

theorem markV_step (P : List S42) (h1 : P.length ≤ 1048576) (q : Int) (hq : 0 ≤ q) (hq1 : q ≤ 8796093022208) (W : World) (v : Value) (a b : Nat) (x : Kd.R k42 42 W a (In a b) v P) (w0 : World) (K : Below w0.heap.size w0 W) (hb0 : w0.heap.size ≤ a) :
    Calls Try.prog 63 #[v, .int .i64 q] W fun E w' => E = .returned (.int .i64 (q + 3 * (P.length : Int))) ∧ Kd.R k42 42 w' a (In a b) v (marksV q P.length) ∧ Kept W w' (fun k => some k = v.ownBlock) ∧ Below w0.heap.size w0 w' := by
  have hf := markV_loop P q hq hq1 h1 P.length 1048577 0 (by omega) (by omega) (by omega)
  rw [show q + 3 * ((0 : Nat) : Int) = q by omega, show ((0 : Nat) : Int) = 0 from rfl, show partV q P 0 = P by simp [partV, marksV]] at hf
  have hE : (k42 : Kd S42).E = [] := rfl
  refine (laws_markVectorS.calls 1048577 (fun k => some k = v.ownBlock) v P q (q + 3 * (P.length : Int)) (marksV q P.length) w0 W K (Kd.R_lower (Kd.R_tight hE x) hb0) hf).mono ?_
  rintro E w' ⟨rfl, hR, hB, hK⟩
  refine ⟨rfl, ?_, hK, hB⟩
  refine ⟨x.1, ?_⟩
  obtain ⟨_, inner, ho, hr⟩ := hR
  refine ⟨inner, own_rebase ho (fun k hk => (x.1 k hk).1), hr.imp_ (fun p cs hp => ?_)⟩
  obtain rfl := k42_openM hp
  exact k42_mkM _ _ _ p

set_option maxHeartbeats 1000000 in
theorem markM_step (P : List S42) (T : List (List Int)) (h1 : P.length ≤ 1048576) (h2 : T.length ≤ 1048576) (h3 : ∀ t ∈ T, t.length ≤ 1048576) (q : Int) (hq : 0 ≤ q) (hq1 : q ≤ 4398046511104) (W : World) (A B : Option Addr) (c e a b : Nat) (x : OwnM W a b (.slice A P.length c) (.slice B T.length e) P T) (w0 : World) (K : Below w0.heap.size w0 W) (hb0 : w0.heap.size ≤ a) (hbW : b ≤ W.heap.size) :
    Calls Try.prog 22 #[.agg #[.slice A P.length c, .slice B T.length e], .int .i64 q] W fun E w' => E = .returned (.int .i64 (q + 3 * (P.length : Int) + (tot T : Int))) ∧ OwnM w' a b (.slice A P.length c) (.slice B T.length e) (marksV q P.length) (marksT (q + 3 * (P.length : Int)) T) ∧ Kept W w' (In a b) ∧ Below w0.heap.size w0 w' := by
  obtain ⟨xP, xT⟩ := x
  have hxP : ∀ k, (Value.slice A P.length c).ownBlock = some k → In a b k := fun k hk => xP.1 k hk
  have xT2 : Kd.S (Kd.slice 2 (Kd.int .i64)) 56 W a (fun k => In a b k ∧ some k ≠ (Value.slice A P.length c).ownBlock) (.slice B T.length e) T := by
    exact Kd.S_apart' xT (Kd.R_typed xP) (by decide)
  have H0 := Lib.hid hb0
  have XP := Lib.hid (Kd.R_alloc xP (.cells #[.slice A P.length c, .slice B T.length e] 27))
  have XT := Lib.hid (Kd.S_alloc xT2 (.cells #[.slice A P.length c, .slice B T.length e] 27))
  have K1 := Lib.hid (below_alloc K (.cells #[.slice A P.length c, .slice B T.length e] 27))
  have H3 := Lib.hid h3
  have HQ2 : Hid (q + 3 * (P.length : Int) ≤ 17592186044416) := Lib.hid (by omega)
  have hstep : ∀ w1 : World, Kept (W.alloc (.cells #[.slice A P.length c, .slice B T.length e] 27)) w1 (fun k => some k = (Value.slice A P.length c).ownBlock) → w1.cell? ⟨W.heap.size, 1, none⟩ = some (.slice B T.length e) := fun w1 hk =>
    cell_kept ((blk_cell (heap_alloc_new W _) 1).trans rfl) hk (fun h => by have := hxP _ h.symm; unfold In at this; simp only at this; omega)
  have HST := Lib.hid hstep
  have hfin : ∀ w1 w2 : World, Kept (W.alloc (.cells #[.slice A P.length c, .slice B T.length e] 27)) w1 (fun k => some k = (Value.slice A P.length c).ownBlock) → Kept w1 w2 (fun k => In a b k ∧ some k ≠ (Value.slice A P.length c).ownBlock) → Kept W w2 (In a b) := fun w1 w2 k1 k2 =>
    (((Kept.refl W (In a b)).alloc _).then_ k1 (fun k hk => .inl (hxP k hk.symm))).then_ k2 (fun k hk => .inl hk.1)
  have HF := Lib.hid hfin
  have hbw := K.size
  clear xP xT xT2 K h3 hstep hbw hb0 hfin hxP hbW
  go_enter Try.func22, Try.ntmps22
  go_wp2_with (first | (go_at_call 63; refine (markV_step P h1 q hq (by omega) _ _ a b XP.out w0 K1.out H0.out).mono ?_; rintro E w1 ⟨rfl, hR, hK, hB⟩; have hc1 := HST.out w1 hK; have R1 := Lib.hid hR; have KK1 := Lib.hid hK; have B1 := Lib.hid hB; clear hR hK hB) | (go_at_call 64; refine (mark_rows _ T h2 H3.out _ (by omega) HQ2.out _ a _ _ w0 B1.out H0.out B1.out.size (Kd.S_kept XT.out KK1.out (fun k hk he => hk.2 he))).mono ?_; rintro E w2 ⟨rfl, hS, hK2, hB2⟩; have S2 := Lib.hid hS; have KK2 := Lib.hid hK2; have B2 := Lib.hid hB2; clear hS hK2 hB2) | fail)
  go_ret
  have hE : (k42 : Kd S42).E = [] := rfl
  refine ⟨rfl, ⟨?_, Kd.S_mono S2.out (fun k hk => hk.1)⟩, HF.out _ _ KK1.out KK2.out, B2.out⟩
  exact Kd.R_mono (Kd.R_kept (Kd.R_tight2 hE R1.out) KK2.out (fun k hk hn => hn.2 hk.1)) (fun k hk => hk.2)

end Go.Proofs.Ytepilofcionekaa
namespace Go.Proofs.Ytepilofcionekaa
open Fl Go.RowKit Go.Proofs.YtepilofcionekaaW.PrintWords Go.Proofs.Ytepilofcionekaa.PMesh Msh
set_option linter.unusedVariables false

/-- A mesh that the reference has made: it is read alone. -/
def RefM (w : World) (a b : Nat) (vP vT : Value) (P : List S42) (T : List (List Int)) : Prop :=
  Kd.R k42 42 w a (In a b) vP P ∧ Kd.N (Kd.slice 2 (Kd.int .i64)) 56 w a (In a b) vT T
section
variable {w w' : World} {a b c d : Nat} {vP vT : Value} {P : List S42} {T : List (List Int)}
theorem RefM.below (h : RefM w a b vP vT P T) (hb : Below w.heap.size w w') : RefM w' a b vP vT P T := ⟨Kd.R_below h.1 hb, Kd.N_below h.2 hb⟩
theorem RefM.kept (h : RefM w a b vP vT P T) (hk : Kept w w' (In c d)) (ho : b ≤ c ∨ d ≤ a) : RefM w' a b vP vT P T := ⟨Kd.R_kept h.1 hk (In_off ho), Kd.N_kept h.2 hk (In_off ho)⟩
theorem RefM.C {A B : Option Addr} {n m e f : Nat} (h : RefM w a b (.slice A n e) (.slice B m f) P T) : Kd.C k42 w A P.length P ∧ P.length ≤ e ∧ Kd.C (Kd.slice 2 (Kd.int .i64)) w B T.length T ∧ T.length ≤ f := by
  obtain ⟨h1, h2, h3⟩ := Kd.R_reads' h.1
  obtain ⟨h4, h5, h6⟩ := Kd.N_reads' h.2
  exact ⟨h3, by omega, h6, by omega⟩
theorem N_in {α : Type} {d : Kd α} {e base : Nat} {w : World} {v : Value} {xs : List α} {ok : Nat → Prop} (h : Kd.N d e w base ok v xs) (hok : ∀ k, ok k → base ≤ k) : Kd.N d e w base (In base w.heap.size) v xs := Kd.N_mono (Kd.N_bound h) (fun k hk => ⟨hok k hk.1, hk.2⟩)
end
/-- What the reference's function with a mesh and a bool leaves. -/
def AnsR (w : World) (P : List S42) (T : List (List Int)) (b : Bool) (E : Ending) (w' : World) : Prop := ∃ A c B e, E = .returned (.tuple #[.agg #[.slice A P.length c, .slice B T.length e], .bool b]) ∧ RefM w' w.heap.size w'.heap.size (.slice A P.length c) (.slice B T.length e) P T ∧ Below w.heap.size w w'

/-- What a function with a mesh and a bool leaves. -/
def AnsM (w : World) (P : List S42) (T : List (List Int)) (b : Bool) (E : Ending) (w' : World) : Prop := ∃ A c B e, E = .returned (.tuple #[.agg #[.slice A P.length c, .slice B T.length e], .bool b]) ∧ OwnM w' w.heap.size w'.heap.size (.slice A P.length c) (.slice B T.length e) P T ∧ Below w.heap.size w w'

theorem eqR_step (P P' : List S42) (T : List (List Int)) (hp : simP P P') (h1 : P.length ≤ 1048576) (h2 : T.length ≤ 1048576) (h3 : ∀ t ∈ T, t.length ≤ 1048576) (W : World) (A A' B B' : Option Addr) (c c' e e' a b a' b' : Nat)
    (x : OwnM W a b (.slice A P.length c) (.slice B T.length e) P T) (y : RefM W a' b' (.slice A' P'.length c') (.slice B' T.length e') P' T) :
    Calls Try.prog 21 #[.agg #[.slice A P.length c, .slice B T.length e], .agg #[.slice A' P'.length c', .slice B' T.length e']] W fun E w' => E = .returned (.bool true) ∧ Below W.heap.size W w' :=
  laws_eqMesh.calls 2097156 A c P B e T A' c' P' B' e' T true W x.C.1 x.C.2.1 x.C.2.2.1 x.C.2.2.2 y.C.1 y.C.2.1 y.C.2.2.1 y.C.2.2.2 (eqMesh_f P P' T hp h1 h2 h3 _ (by omega))

end Go.Proofs.Ytepilofcionekaa
namespace Go.Proofs.Ytepilofcionekaa
open Fl Go.RowKit Go.Proofs.YtepilofcionekaaW.PrintWords Go.Proofs.YtepilofcionekaaW.PrintLast Go.Proofs.YtepilofcionekaaW.PrintMore Go.Proofs.Ytepilofcionekaa.PMesh Msh
set_option linter.unusedVariables false

theorem copy_loop (Q : List S42) (T : List (List Int)) (hT : T.length ≤ 1048576) (hr : ∀ t ∈ T, t.length ≤ 1048576) (d : Nat) : ∀ (k i : Nat), i ≤ T.length → T.length - i = d → d < k → impl_copyMesh.l0 k T (T.length : Int) (i : Int) Q (T.take i) = some (Q, T) := by
  induction d with
  | zero =>
    intro k i hi hd hk
    obtain ⟨k, rfl⟩ : ∃ j, k = j + 1 := ⟨k - 1, by omega⟩
    obtain rfl : i = T.length := by omega
    simp only [impl_copyMesh.l0]
    rw [if_neg (by omega), List.take_length]
  | succ d ih =>
    intro k i hi hd hk
    obtain ⟨k, rfl⟩ : ∃ j, k = j + 1 := ⟨k - 1, by omega⟩
    have hil : i < T.length := by omega
    have h3 := hr T[i] (List.getElem_mem hil)
    have e := ih k (i + 1) (by omega) (by omega) (by omega)
    rw [List.take_succ_eq_append_getElem hil] at e
    simp only [impl_copyMesh.l0, Option.bind_some, List.nil_append, List.length_nil]
    rw [if_pos (by omega), if_pos (by omega), if_pos (by omega), rdL T i hil, if_pos (by omega), if_pos (by rw [List.length_take]; omega), up i (by omega)]
    exact e
theorem copy_f (Q : List S42) (T : List (List Int)) (hQ : Q.length ≤ 1048576) (hT : T.length ≤ 1048576) (hr : ∀ t ∈ T, t.length ≤ 1048576) : impl_copyMesh.f 1048578 Q T = some (Q, T) := by
  unfold impl_copyMesh.f
  simp only [Option.bind_some, List.nil_append, List.length_nil]
  rw [if_pos (by omega)]
  exact copy_loop Q T hT hr T.length 1048578 0 (by omega) (by omega) (by omega)

theorem valid_rows {n : Nat} {T : List (List Int)} (hv : validB n T = true) : n ≤ 64 ∧ T.length ≤ 128 ∧ ∀ t ∈ T, t.length = 3 := by
  simp only [validB, Bool.and_eq_true, decide_eq_true_eq] at hv
  exact ⟨hv.1.1, hv.1.2, fun t ht => triB_len (List.all_eq_true.1 hv.2 t ht)⟩

theorem kept_two {w : World} {g : Nat} (u v : Value) : Kept w ((w.setCell ⟨g, 0, none⟩ u).setCell ⟨g, 1, none⟩ v) (fun k => k = g) := by
  have h1 : Kept w (w.setCell ⟨g, 0, none⟩ u) (fun k => k = g) := Kept.setCell (p := ⟨g, 0, none⟩) (Kept.refl w (fun k => k = g)) (Or.inl rfl) u
  exact Kept.setCell (p := ⟨g, 1, none⟩) h1 (Or.inl rfl) v

end Go.Proofs.Ytepilofcionekaa
namespace Go.Proofs.Ytepilofcionekaa
open Fl Go.RowKit Go.Proofs.YtepilofcionekaaW.PrintWords Go.Proofs.YtepilofcionekaaW.PrintLast Go.Proofs.YtepilofcionekaaW.PrintMore Go.Proofs.Ytepilofcionekaa.PMesh Msh
set_option linter.unusedVariables false

theorem oldc {w W : World} {a : Addr} {v : Value} (hb : Below w.heap.size w W) (h : w.cell? a = some v) : W.cell? a = some v := (hb.cell (World.block_lt_of_cell? _ _ h)).trans h

/-- The mesh's value if it is valid, else an empty mesh's. -/
def giveV (b : Bool) (u v : Value) : Value := if b = true then .agg #[u, v] else .agg #[.slice none 0 0, .slice none 0 0]

set_option maxHeartbeats 1000000 in
theorem impl_validMesh (A : Option Addr) (c : Nat) (Q : List S42) (B : Option Addr) (e : Nat) (T : List (List Int)) (w : World) (hQ : Kd.C k42 w A Q.length Q) (hq : Q.length ≤ c) (hT : Kd.C (Kd.slice 2 (Kd.int .i64)) w B T.length T) (hqt : T.length ≤ e) :
    Calls Try.prog 50 #[.agg #[.slice A Q.length c, .slice B T.length e]] w fun E w' => E = .returned (.tuple #[giveV (validB Q.length T) (.slice A Q.length c) (.slice B T.length e), .bool (validB Q.length T)]) ∧ Below w.heap.size w w' := by
  have hb0 := below_alloc (below_alloc (Below.refl w.heap.size w) (.cells #[.slice A Q.length c, .slice B T.length e] 27)) (.cells #[.slice none 0 0, .slice none 0 0] 27)
  have hbx := (BoxAt.new w 27 (.slice A Q.length c) (.slice B T.length e)).below (below_alloc (Below.refl _ _) (.cells #[.slice none 0 0, .slice none 0 0] 27))
  have hms : (w.alloc (.cells #[.slice A Q.length c, .slice B T.length e] 27)).heap.size = w.heap.size + 1 := by simp
  have hf0 := BoxAt.new (w.alloc (.cells #[.slice A Q.length c, .slice B T.length e] 27)) 27 (.slice none 0 0) (.slice none 0 0)
  rw [hms] at hf0
  have HX0 := Lib.hid hbx
  have HB0 := Lib.hid hb0
  have F0 := Lib.hid hf0
  have hc0 := hbx.c0
  have hc1 := hbx.c1
  have HV := Lib.hid (fun (W : World) (h : Below w.heap.size w W) => impl_ValidMesh.calls 2097156 A c Q B e T _ W (Kd.C_below hQ h) hq (Kd.C_below hT h) hqt (valid_f Q T _ (by omega)))
  generalize validB Q.length T = b at *
  clear hb0 hbx hf0 hms hQ hT hq hqt
  go_enter Try.func50, Try.ntmps50
  cases b
  · go_wp2_with (first
      | (go_at_call 43; refine (HV.out _ HB0.out).mono ?_; rintro E w1 ⟨rfl, hb⟩; have B1 := Lib.hid (below_then HB0.out hb HB0.out.size); have hf1 := F0.out.below hb; have f0 := hf1.c0; have f1 := hf1.c1; have z0 := blk_frozen hf1 0; have z1 := blk_frozen hf1 1; clear hb hc0 hc1)
      | fail)
    ((try simp only [Exit.inBlock, Exit.then]); refine bodyPost_ret (by simp [results, Try.results50, go_sem, f0, f1, setCell_same_of, World.cell?_setCell_other]; try rfl) rfl ?_)
    exact ⟨rfl, below_set (below_set B1.out (Nat.le_succ _)) (Nat.le_succ _)⟩
  · go_wp2_with (first
      | (go_at_call 43; refine (HV.out _ HB0.out).mono ?_; rintro E w1 ⟨rfl, hb⟩; have B1 := Lib.hid (below_then HB0.out hb HB0.out.size); have hx1 := HX0.out.below hb; have hd0 := hx1.c0; have hd1 := hx1.c1; have hf1 := F0.out.below hb; have f0 := hf1.c0; have f1 := hf1.c1; have z0 := blk_frozen hf1 0; have z1 := blk_frozen hf1 1; clear hb hc0 hc1)
      | fail)
    ((try simp only [Exit.inBlock, Exit.then]); refine bodyPost_ret (by simp [results, Try.results50, go_sem, f0, f1, setCell_same_of, World.cell?_setCell_other]; try rfl) rfl ?_)
    exact ⟨rfl, below_set (below_set B1.out (Nat.le_succ _)) (Nat.le_succ _)⟩

set_option maxHeartbeats 1000000 in
set_option maxRecDepth 100000 in
theorem spec_l02Is_reads (g : Nat) (A : Option Addr) (c : Nat) (Q : List S42) (B : Option Addr) (e : Nat) (T : List (List Int)) (w : World) (hg : BoxAt w g 27 (.slice A Q.length c) (.slice B T.length e)) (hT : Kd.C (Kd.slice 2 (Kd.int .i64)) w B T.length T) (hqt : T.length ≤ e) :
    Calls Try.prog 69 #[.pointer (some ⟨g, 0, none⟩)] w fun E w' => E = .returned (.bool (validB Q.length T)) ∧ Below w.heap.size w w' := by
  have hc0 := hg.c0
  have hc1 := hg.c1
  have hvd : validB Q.length T = (decide (Q.length ≤ 64) && decide (T.length ≤ 128) && T.all (triB Q.length)) := rfl
  by_cases hn : Q.length ≤ 64
  · by_cases ht : T.length ≤ 128
    · have e1 : ¬ ((64 : Int) < (Q.length : Int)) := by omega
      have e2 : ¬ ((128 : Int) < (T.length : Int)) := by omega
      rw [hvd, decide_eq_true hn, decide_eq_true ht, Bool.true_and, Bool.true_and]
      clear hvd
      have HG := Lib.hid hg
      have HC := Lib.hid hT
      clear hg hT
      go_enter Try.func69, Try.ntmps69
      go_wp2_with fail
      clear hc0 hc1
      go_loopw [3] (fun k wr => ∃ (i : Nat), i ≤ T.length ∧ k = .int .i64 (i : Int) ∧ Hid (Below w.heap.size w wr) ∧ Hid ((T.drop i).all (triB Q.length) = T.all (triB Q.length))) (fun k _ => T.length - (intOf k).toNat)
      case atStart => exact ⟨0, Nat.zero_le _, rfl, Lib.hid (Below.refl _ _), Lib.hid rfl⟩
      case round =>
        obtain ⟨i, hi, rfl, HB, HA⟩ := hrel
        have hg' := HG.out.below HB.out
        have hc0 := hg'.c0
        have hc1 := hg'.c1
        clear hg'
        by_cases hlt : i < T.length
        · have b1 : (i : Int) < (T.length : Int) := by omega
          have b2 : (0 : Int) ≤ (i : Int) := by omega
          have b3 : (i : Int) < 9223372036854775807 := by omega
          obtain ⟨ba, C, cc, rfl, tc, hcc, hC⟩ := at_L3 (Kd.C_below HC.out HB.out) (i : Int) (by omega) (by omega)
          rw [rdL T i hlt] at tc hcc hC
          rw [Int.toNat_natCast] at tc
          have hd : T.drop i = T[i] :: T.drop (i + 1) := List.drop_eq_getElem_cons hlt
          have HT3 := Lib.hid (fun (W : World) (h : Below wr.heap.size wr W) => spec_l02Triangle.calls 2 C cc T[i] (Q.length : Int) (triB Q.length T[i]) W (Kd.C_below hC h) hcc (triangle_f Q.length hn T[i] 2 (by omega)))
          have ha := HA.out
          rw [hd, List.all_cons] at ha
          have HA2 := Lib.hid ha
          clear hd ha HA hC hcc
          generalize T[i] = t at *
          have HK := Lib.hid (fun (W : World) (h : Below wr.heap.size wr W) => (⟨oldc h hc0, oldc h hc1, oldc h tc, h⟩ : W.cell? ⟨g, 0, none⟩ = some (.slice A Q.length c) ∧ W.cell? ⟨g, 1, none⟩ = some (.slice (some ba) T.length e) ∧ W.cell? (ba.add i) = some (.slice C t.length cc) ∧ Below wr.heap.size wr W))
          have S1 := HK.out wr (Below.refl _ _)
          go_wp2_with fail
          clear hc0 hc1 tc
          go_region_held3 (fun W => W.cell? ⟨g, 0, none⟩ = some (.slice A Q.length c) ∧ W.cell? ⟨g, 1, none⟩ = some (.slice (some ba) T.length e) ∧ W.cell? (ba.add i) = some (.slice C t.length cc) ∧ Below wr.heap.size wr W)
            (first | with_reducible assumption | (with_reducible exact HK.out _ (Below.drew (And.right (And.right (And.right (by with_reducible assumption)))))) | (with_reducible exact HK.out _ (below_then (And.right (And.right (And.right (by with_reducible assumption)))) (Drawn0.below (by with_reducible assumption)) (Below.size (And.right (And.right (And.right (by with_reducible assumption))))))))
            (first | (go_at_call 102; (with_reducible refine (HT3.out _ (And.right (And.right (And.right (by with_reducible assumption))))).mono ?_); rintro E w2 ⟨rfl, hd2⟩))
          rename_i hH
          have hbw := hH.2.2.2
          have HB2 := Lib.hid (below_then HB.out hbw HB.out.size)
          clear hH hbw S1 HK HT3
          clear hd2 e1 e2
          generalize triB Q.length t = q at *
          clear HG HC b1 b2 b3
          (try simp only [Exit.then])
          refine ‹∀ (a : Act) (w : World), Code.wp _ (Code.cond _ _ _) _ a w → _› _ _ ?_
          cases q
          · go_wp2_with fail
            go_ret
            exact ⟨by rw [← HA2.out]; rfl, HB2.out⟩
          · go_wp2_with fail
            exact ⟨⟨i + 1, hlt, by simp, HB2, Lib.hid (by rw [← HA2.out, Bool.true_and])⟩, by simp [intOf]; omega⟩
        · obtain rfl : i = T.length := by omega
          have hh := HA.out
          rw [List.drop_length] at hh
          go_wp2_with fail
          go_ret
          exact ⟨by rw [← hh]; rfl, HB.out⟩
    · have e1 : ¬ ((64 : Int) < (Q.length : Int)) := by omega
      have e2 : ((128 : Int) < (T.length : Int)) := by omega
      rw [hvd, decide_eq_false ht, Bool.and_false, Bool.false_and]
      go_enter Try.func69, Try.ntmps69
      go_wp2_with fail
      go_ret
      exact ⟨rfl, Below.refl _ _⟩
  · have e1 : ((64 : Int) < (Q.length : Int)) := by omega
    rw [hvd, decide_eq_false hn, Bool.false_and, Bool.false_and]
    go_enter Try.func69, Try.ntmps69
    go_wp2_with fail
    go_ret
    exact ⟨rfl, Below.refl _ _⟩

set_option maxHeartbeats 1000000 in
theorem spec_l02Give (A : Option Addr) (c : Nat) (Q : List S42) (B : Option Addr) (e : Nat) (T : List (List Int)) (w : World) (hT : Kd.C (Kd.slice 2 (Kd.int .i64)) w B T.length T) (hqt : T.length ≤ e) :
    Calls Try.prog 57 #[.agg #[.slice A Q.length c, .slice B T.length e]] w fun E w' => E = .returned (.tuple #[giveV (validB Q.length T) (.slice A Q.length c) (.slice B T.length e), .bool (validB Q.length T)]) ∧ Below w.heap.size w w' := by
  have hb0 := below_alloc (below_alloc (Below.refl w.heap.size w) (.cells #[.slice A Q.length c, .slice B T.length e] 27)) (.cells #[.slice none 0 0, .slice none 0 0] 27)
  have hbx := (BoxAt.new w 27 (.slice A Q.length c) (.slice B T.length e)).below (below_alloc (Below.refl _ _) (.cells #[.slice none 0 0, .slice none 0 0] 27))
  have hms : (w.alloc (.cells #[.slice A Q.length c, .slice B T.length e] 27)).heap.size = w.heap.size + 1 := by simp
  have hf0 := BoxAt.new (w.alloc (.cells #[.slice A Q.length c, .slice B T.length e] 27)) 27 (.slice none 0 0) (.slice none 0 0)
  rw [hms] at hf0
  have HX0 := Lib.hid hbx
  have HB0 := Lib.hid hb0
  have F0 := Lib.hid hf0
  have HV := Lib.hid (fun (W : World) (hx : BoxAt W w.heap.size 27 (.slice A Q.length c) (.slice B T.length e)) (h : Below w.heap.size w W) => spec_l02Is_reads w.heap.size A c Q B e T W hx (Kd.C_below hT h) hqt)
  generalize validB Q.length T = b at *
  clear hb0 hbx hf0 hms hT hqt
  go_enter Try.func57, Try.ntmps57
  cases b
  · go_wp2_with (first
      | (go_at_call 69; refine (HV.out _ HX0.out HB0.out).mono ?_; rintro E w1 ⟨rfl, hb⟩; have B1 := Lib.hid (below_then HB0.out hb HB0.out.size); have hf1 := F0.out.below hb; have f0 := hf1.c0; have f1 := hf1.c1; have z0 := blk_frozen hf1 0; have z1 := blk_frozen hf1 1; clear hb)
      | fail)
    ((try simp only [Exit.inBlock, Exit.then]); refine bodyPost_ret (by simp [results, Try.results57, go_sem, f0, f1, setCell_same_of, World.cell?_setCell_other]; try rfl) rfl ?_)
    exact ⟨rfl, below_set (below_set B1.out (Nat.le_succ _)) (Nat.le_succ _)⟩
  · go_wp2_with (first
      | (go_at_call 69; refine (HV.out _ HX0.out HB0.out).mono ?_; rintro E w1 ⟨rfl, hb⟩; have B1 := Lib.hid (below_then HB0.out hb HB0.out.size); have hx1 := HX0.out.below hb; have hd0 := hx1.c0; have hd1 := hx1.c1; have hf1 := F0.out.below hb; have f0 := hf1.c0; have f1 := hf1.c1; have z0 := blk_frozen hf1 0; have z1 := blk_frozen hf1 1; clear hb)
      | fail)
    ((try simp only [Exit.inBlock, Exit.then]); refine bodyPost_ret (by simp [results, Try.results57, go_sem, f0, f1, setCell_same_of, World.cell?_setCell_other]; try rfl) rfl ?_)
    exact ⟨rfl, below_set (below_set B1.out (Nat.le_succ _)) (Nat.le_succ _)⟩

end Go.Proofs.Ytepilofcionekaa
namespace Go.Proofs.Ytepilofcionekaa
open Fl Go.RowKit Go.Proofs.YtepilofcionekaaW.PrintWords Go.Proofs.Ytepilofcionekaa.PMesh Msh
set_option linter.unusedVariables false

theorem held_fAk (a : Int) (ha : 0 ≤ a) (ha1 : a ≤ 1152921504606846976) (n : Nat) (hl : n ≤ 1048576) (k : Nat) (hk : n < k) : laws_heldInt64S.f k (marksA a n) a = some (a + (n : Int)) := by
  unfold laws_heldInt64S.f
  have := held_loopA a ha ha1 n hl n k 0 (by omega) (by omega) (by omega)
  rw [show a + ((0 : Nat) : Int) = a by omega] at this
  exact this

theorem ofInt_eq (n : Int) : (FloatKind.f32.format.order (floatOfInt .f32 n) (floatOfInt .f32 n) != some Ordering.eq) = false := by
  have h : val .f32 (floatOfInt .f32 n) = some (floatOfInt .f32 n) := write_val .f32 (d := .number (decide (n < 0)) n.natAbs 0) rfl
  rw [order_self h]; rfl

theorem heldV_loop (q : Int) (h0 : 0 ≤ q) (hq : q ≤ 1099511627776) (n : Nat) (hn : n ≤ 1048576) (d : Nat) : ∀ (k i : Nat), i ≤ n → n - i = d → d < k → laws_heldVectorS.l0 k (marksV q n) (q + 3 * (i : Int)) (i : Int) = some (q + 3 * (n : Int)) := by
  have hl := marksV_len q n
  induction d with
  | zero =>
    intro k i hi hd hk
    obtain ⟨k, rfl⟩ : ∃ j, k = j + 1 := ⟨k - 1, by omega⟩
    obtain rfl : i = n := by omega
    simp only [laws_heldVectorS.l0]
    rw [if_neg (by omega)]
  | succ d ih =>
    intro k i hi hd hk
    obtain ⟨k, rfl⟩ : ∃ j, k = j + 1 := ⟨k - 1, by omega⟩
    have hil : i < (marksV q n).length := by omega
    simp only [laws_heldVectorS.l0]
    rw [if_pos (by omega), if_pos (by omega), rdV _ i hil, marksV_get q n i hil]
    rw [Msh.wrap_fit (x := q + 3 * (i : Int) + 1) (by omega) (by omega), Msh.wrap_fit (x := q + 3 * (i : Int) + 1 + 1) (by omega) (by omega), Msh.wrap_fit (x := q + 3 * (i : Int) + 1 + 1 + 1) (by omega) (by omega), up i (by omega)]
    have e := ih k (i + 1) (by omega) (by omega) (by omega)
    rw [show q + 3 * (i : Int) + 1 + 1 + 1 = q + 3 * ((i + 1 : Nat) : Int) by omega, show q + 3 * (i : Int) + 1 + 1 = q + 3 * (i : Int) + 2 by omega]
    simp only [mkV, ofInt_eq]
    simpa using e

theorem heldT_loop (X : List (List Int)) (hX : X.length ≤ 1048576) : ∀ (S : List (List Int)) (a : Int) (k j : Nat), X.drop j = marksT a S → j + S.length = X.length → 0 ≤ a → a + (tot S : Int) ≤ 1152921504606846976 → (∀ t ∈ S, t.length ≤ 1048576) → S.length + 1048577 < k →
    laws_heldInt64SS.l0 k X a (j : Int) = some (a + (tot S : Int)) := by
  intro S
  induction S with
  | nil =>
    intro a k j hd hj h0 h1 h2 hk
    obtain ⟨k, rfl⟩ : ∃ j, k = j + 1 := ⟨k - 1, by omega⟩
    simp only [laws_heldInt64SS.l0, List.length_nil] at hj ⊢
    rw [if_neg (by omega)]
    simp [tot]
  | cons t r ih =>
    intro a k j hd hj h0 h1 h2 hk
    obtain ⟨k, rfl⟩ : ∃ j, k = j + 1 := ⟨k - 1, by omega⟩
    simp only [List.length_cons, tot] at hj h1 hk
    have hjl : j < X.length := by omega
    have ht := h2 t List.mem_cons_self
    rw [List.drop_eq_getElem_cons hjl] at hd
    simp only [marksT, List.cons.injEq] at hd
    obtain ⟨hd1, hd2⟩ := hd
    simp only [laws_heldInt64SS.l0]
    rw [if_pos (by omega), if_pos (by omega), rdL X j hjl, hd1, held_fAk a h0 (by omega) _ ht k (by omega)]
    simp only [Option.bind_some]
    rw [if_neg (by omega), up j (by omega), ih (a + (t.length : Int)) k (j + 1) hd2 (by omega) (by omega) (by omega) (fun x hx => h2 x (List.mem_cons_of_mem _ hx)) (by omega)]
    congr 1
    simp only [tot]
    omega

theorem heldM_f (q : Int) (h0 : 0 ≤ q) (hq : q ≤ 8) (n : Nat) (hn : n ≤ 1048576) (T : List (List Int)) (h2 : T.length ≤ 1048576) (h3 : ∀ t ∈ T, t.length ≤ 1048576) :
    laws_heldMesh.f 2097156 (marksV q n) (marksT (q + 3 * (n : Int)) T) q = some (q + 3 * (n : Int) + (tot T : Int)) := by
  have ht := tot_le T h3
  have hT : tot T ≤ 1099511627776 := Nat.le_trans ht (by omega)
  unfold laws_heldMesh.f laws_heldVectorS.f
  have e := heldV_loop q h0 (by omega) n hn n 2097156 0 (by omega) (by omega) (by omega)
  rw [show q + 3 * ((0 : Nat) : Int) = q by omega, show ((0 : Nat) : Int) = 0 from rfl] at e
  rw [e]
  simp only [Option.bind_some]
  rw [if_neg (by omega)]
  unfold laws_heldInt64SS.f
  have e2 := heldT_loop (marksT (q + 3 * (n : Int)) T) (by rw [marksT_len]; exact h2) T (q + 3 * (n : Int)) 2097156 0 (by rw [List.drop_zero]) (by rw [marksT_len]; omega) (by omega) (by omega) h3 (by omega)
  rw [show ((0 : Nat) : Int) = 0 from rfl] at e2
  rw [e2]
  simp only [Option.bind_some]
  rw [if_neg (by omega)]

theorem heldM_step (P : List S42) (T : List (List Int)) (h1 : P.length ≤ 1048576) (h2 : T.length ≤ 1048576) (h3 : ∀ t ∈ T, t.length ≤ 1048576) (q : Int) (hq : 0 ≤ q) (hq1 : q ≤ 8) (W : World) (A B : Option Addr) (c e a b : Nat) (x : OwnM W a b (.slice A P.length c) (.slice B T.length e) (marksV q P.length) (marksT (q + 3 * (P.length : Int)) T)) :
    Calls Try.prog 23 #[.agg #[.slice A P.length c, .slice B T.length e], .int .i64 q] W fun E w' => E = .returned (.int .i64 (q + 3 * (P.length : Int) + (tot T : Int))) ∧ Below W.heap.size W w' := by
  have l1 := marksV_len q P.length
  have l2 := marksT_len T (q + 3 * (P.length : Int))
  have hC := OwnM.C x
  have h := laws_heldMesh.calls 2097156 A c (marksV q P.length) B e (marksT (q + 3 * (P.length : Int)) T) q _ W hC.1 hC.2.1 hC.2.2.1 hC.2.2.2 (heldM_f q hq hq1 P.length h1 T h2 h3)
  rw [l1, l2] at h
  exact h
end Go.Proofs.Ytepilofcionekaa
namespace Go.Proofs.Ytepilofcionekaa
open Fl Go.RowKit Go.Proofs.YtepilofcionekaaW.PrintWords Go.Proofs.Ytepilofcionekaa.PMesh Msh
set_option linter.unusedVariables false

theorem simF_symm {a b : Nat} (h : simF a b = true) : simF b a = true := by obtain ⟨h1, h2, h3⟩ := simF_iff.1 h; exact simF_iff.2 ⟨h2, h1, h3.symm⟩
theorem simF_trans {a b c : Nat} (h : simF a b = true) (k : simF b c = true) : simF a c = true := by obtain ⟨h1, h2, h3⟩ := simF_iff.1 h; obtain ⟨k1, k2, k3⟩ := simF_iff.1 k; exact simF_iff.2 ⟨h1, k2, h3.trans k3⟩
theorem simV_symm {x y : S42} (h : simV x y) : simV y x := ⟨simF_symm h.1, simF_symm h.2.1, simF_symm h.2.2⟩
theorem simV_trans {x y z : S42} (h : simV x y) (k : simV y z) : simV x z := ⟨simF_trans h.1 k.1, simF_trans h.2.1 k.2.1, simF_trans h.2.2 k.2.2⟩
theorem simP_symm {a b : List S42} (h : simP a b) : simP b a := ⟨h.1.symm, fun i ha hb => simV_symm (h.2 i hb ha)⟩
theorem simP_trans {a b c : List S42} (h : simP a b) (k : simP b c) : simP a c := ⟨h.1.trans k.1, fun i ha hc => simV_trans (h.2 i ha (h.1 ▸ ha)) (k.2 i (h.1 ▸ ha) hc)⟩
theorem simP_nil : simP [] [] := ⟨rfl, fun i ha _ => absurd ha (Nat.not_lt_zero _)⟩
theorem simP_append {a b a' b' : List S42} (h : simP a a') (k : simP b b') : simP (a ++ b) (a' ++ b') := by
  refine ⟨by simp [h.1, k.1], fun i ha hb => ?_⟩
  have e1 := h.1
  have e2 := k.1
  have ha' := ha
  have hb' := hb
  rw [List.length_append] at ha' hb'
  by_cases hi : i < a.length
  · rw [List.getElem_append_left hi, List.getElem_append_left (by rw [← h.1]; exact hi)]
    exact h.2 i hi _
  · rw [List.getElem_append_right (by omega), List.getElem_append_right (by rw [← h.1]; omega)]
    have := k.2 (i - a.length) (by omega) (by omega)
    simpa [h.1] using this
theorem simP_one {x y : S42} (h : simV x y) : simP [x] [y] := ⟨rfl, fun i ha hb => by
  have : i = 0 := by simp at ha; omega
  subst this
  exact h⟩

/-- What the program's function with a mesh and a bool leaves. -/
def AnsMs (w : World) (P : List S42) (T : List (List Int)) (b : Bool) (E : Ending) (w' : World) : Prop := ∃ P' A c B e, simP P' P ∧ E = .returned (.tuple #[.agg #[.slice A P.length c, .slice B T.length e], .bool b]) ∧ OwnM w' w.heap.size w'.heap.size (.slice A P.length c) (.slice B T.length e) P' T ∧ Below w.heap.size w w'
/-- What the reference's leaves. -/
def AnsRs (w : World) (P : List S42) (T : List (List Int)) (b : Bool) (E : Ending) (w' : World) : Prop := ∃ P' A c B e, simP P' P ∧ E = .returned (.tuple #[.agg #[.slice A P.length c, .slice B T.length e], .bool b]) ∧ RefM w' w.heap.size w'.heap.size (.slice A P.length c) (.slice B T.length e) P' T ∧ Below w.heap.size w w'
theorem OwnM.ref {w : World} {a b : Nat} {vP vT : Value} {P : List S42} {T : List (List Int)} (h : OwnM w a b vP vT P T) : RefM w a b vP vT P T := ⟨h.1, Kd.R_N (Kd.S_R h.2)⟩
theorem AnsM.s {w w' : World} {P : List S42} {T : List (List Int)} {b : Bool} {E : Ending} (h : AnsM w P T b E w') (hs : simP P P) : AnsMs w P T b E w' := by
  obtain ⟨A, c, B, e, rfl, hx, hb⟩ := h
  exact ⟨P, A, c, B, e, hs, rfl, hx, hb⟩
theorem AnsMs.r {w w' : World} {P : List S42} {T : List (List Int)} {b : Bool} {E : Ending} (h : AnsMs w P T b E w') : AnsRs w P T b E w' := by
  obtain ⟨P', A, c, B, e, hs, rfl, hx, hb⟩ := h
  exact ⟨P', A, c, B, e, hs, rfl, hx.ref, hb⟩

/-- A mesh that can be read. -/
def ReadM (w : World) (A : Option Addr) (c : Nat) (P : List S42) (B : Option Addr) (e : Nat) (T : List (List Int)) : Prop :=
  Kd.C k42 w A P.length P ∧ P.length ≤ c ∧ Kd.C (Kd.slice 2 (Kd.int .i64)) w B T.length T ∧ T.length ≤ e
theorem ReadM.below {w w' : World} {A B : Option Addr} {c e : Nat} {P : List S42} {T : List (List Int)} (h : ReadM w A c P B e T) (hb : Below w.heap.size w w') : ReadM w' A c P B e T := ⟨Kd.C_below h.1 hb, h.2.1, Kd.C_below h.2.2.1 hb, h.2.2.2⟩
theorem OwnM.read {w : World} {a b c e : Nat} {A B : Option Addr} {P : List S42} {T : List (List Int)} (h : OwnM w a b (.slice A P.length c) (.slice B T.length e) P T) : ReadM w A c P B e T := h.C
theorem RefM.read {w : World} {a b c e : Nat} {A B : Option Addr} {P : List S42} {T : List (List Int)} (h : RefM w a b (.slice A P.length c) (.slice B T.length e) P T) : ReadM w A c P B e T := h.C
/-- The same, n places told of another list as long. -/
theorem OwnM.readn {w : World} {a b c e : Nat} {A B : Option Addr} {P' P : List S42} {T : List (List Int)} (hs : simP P' P) (h : OwnM w a b (.slice A P.length c) (.slice B T.length e) P' T) : ReadM w A c P' B e T := by rw [← hs.1] at h; exact h.C
theorem RefM.readn {w : World} {a b c e : Nat} {A B : Option Addr} {P' P : List S42} {T : List (List Int)} (hs : simP P' P) (h : RefM w a b (.slice A P.length c) (.slice B T.length e) P' T) : ReadM w A c P' B e T := by rw [← hs.1] at h; exact h.C

theorem eqr_step (P P1 P2 : List S42) (T : List (List Int)) (s1 : simP P1 P) (s2 : simP P2 P) (h1 : P.length ≤ 1048576) (h2 : T.length ≤ 1048576) (h3 : ∀ t ∈ T, t.length ≤ 1048576) (W : World) (A A' B B' : Option Addr) (c c' e e' : Nat)
    (x : ReadM W A c P1 B e T) (y : ReadM W A' c' P2 B' e' T) :
    Calls Try.prog 21 #[.agg #[.slice A P.length c, .slice B T.length e], .agg #[.slice A' P.length c', .slice B' T.length e']] W fun E w' => E = .returned (.bool true) ∧ Below W.heap.size W w' := by
  have h := laws_eqMesh.calls 2097156 A c P1 B e T A' c' P2 B' e' T true W x.1 x.2.1 x.2.2.1 x.2.2.2 y.1 y.2.1 y.2.2.1 y.2.2.2 (eqMesh_f P1 P2 T (simP_trans s1 (simP_symm s2)) (by rw [s1.1]; exact h1) h2 h3 _ (by omega))
  rw [s1.1, s2.1] at h
  exact h

theorem markMs_step (P P1 : List S42) (T : List (List Int)) (s1 : simP P1 P) (h1 : P.length ≤ 1048576) (h2 : T.length ≤ 1048576) (h3 : ∀ t ∈ T, t.length ≤ 1048576) (q : Int) (hq : 0 ≤ q) (hq1 : q ≤ 4398046511104) (W : World) (A B : Option Addr) (c e a b : Nat) (x : OwnM W a b (.slice A P.length c) (.slice B T.length e) P1 T) (w0 : World) (K : Below w0.heap.size w0 W) (hb0 : w0.heap.size ≤ a) (hbW : b ≤ W.heap.size) :
    Calls Try.prog 22 #[.agg #[.slice A P.length c, .slice B T.length e], .int .i64 q] W fun E w' => E = .returned (.int .i64 (q + 3 * (P.length : Int) + (tot T : Int))) ∧ OwnM w' a b (.slice A P.length c) (.slice B T.length e) (marksV q P.length) (marksT (q + 3 * (P.length : Int)) T) ∧ Kept W w' (In a b) ∧ Below w0.heap.size w0 w' := by
  rw [← s1.1] at x h1 ⊢
  exact markM_step P1 T h1 h2 h3 q hq hq1 W A B c e a b x w0 K hb0 hbW

/-- A cell pair written keeps all but its block. -/
theorem kept_box {w : World} {g : Nat} (u v : Value) : Kept w ((w.setCell ⟨g, 0, none⟩ u).setCell ⟨g, 1, none⟩ v) (In g (g + 1)) := by
  have h : In g (g + 1) g := ⟨Nat.le_refl _, Nat.lt_succ_self _⟩
  have h1 : Kept w (w.setCell ⟨g, 0, none⟩ u) (In g (g + 1)) := Kept.setCell (p := ⟨g, 0, none⟩) (Kept.refl w _) (Or.inl h) u
  exact Kept.setCell (p := ⟨g, 1, none⟩) h1 (Or.inl h) v

/-- A variable that holds a vector of type t: its block. -/
def BoxT (W : World) (g : Nat) (t : TypeId) (p q s : Nat) : Prop := W.heap[g]? = some (.cells #[.float .f32 p, .float .f32 q, .float .f32 s] t (0, 0))
theorem BoxT.new (W : World) (t : TypeId) (p q s : Nat) : BoxT (W.alloc (.cells #[.float .f32 p, .float .f32 q, .float .f32 s] t)) W.heap.size t p q s := heap_alloc_new W _
section
variable {W W' : World} {g p q s c d : Nat} {t : TypeId}
theorem BoxT.below (h : BoxT W g t p q s) (hb : Below W.heap.size W W') : BoxT W' g t p q s := (hb.block g (blk_lt h)).trans h
theorem BoxT.kept (h : BoxT W g t p q s) (hk : Kept W W' (In c d)) (ho : g < c ∨ d ≤ g) : BoxT W' g t p q s := blk_kept h hk (fun hi => by unfold In at hi; omega)
theorem BoxT.c0 (h : BoxT W g t p q s) : W.cell? ⟨g, 0, none⟩ = some (.float .f32 p) := (blk_cell h 0).trans rfl
theorem BoxT.c1 (h : BoxT W g t p q s) : W.cell? ⟨g, 1, none⟩ = some (.float .f32 q) := (blk_cell h 1).trans rfl
theorem BoxT.c2 (h : BoxT W g t p q s) : W.cell? ⟨g, 2, none⟩ = some (.float .f32 s) := (blk_cell h 2).trans rfl
theorem BoxT.lt (h : BoxT W g t p q s) : g < W.heap.size := blk_lt h
end
end Go.Proofs.Ytepilofcionekaa
namespace Go.Proofs.Ytepilofcionekaa
set_option linter.unusedSimpArgs false
open Fl Go.RowKit Go.Proofs.YtepilofcionekaaW.PrintWords Go.Proofs.YtepilofcionekaaW.PrintLast Go.Proofs.YtepilofcionekaaW.PrintMore Go.Proofs.Ytepilofcionekaa.PMesh Msh
set_option linter.unusedVariables false

/-- A triangle's places moved on by n. -/
def shiftT (n : Nat) : List Int → List Int
  | [a, b, c] => [wrap64 (a + (n : Int)), wrap64 (b + (n : Int)), wrap64 (c + (n : Int))]
  | t => t
/-- The first mesh's triangles and i of the second's. -/
def joinT (T T' : List (List Int)) (n i : Nat) : List (List Int) := T ++ (T'.take i).map (shiftT n)
theorem joinT_zero (T T' : List (List Int)) (n : Nat) : joinT T T' n 0 = T := by simp [joinT]
theorem joinT_len (T T' : List (List Int)) (n i : Nat) (h : i ≤ T'.length) : (joinT T T' n i).length = T.length + i := by simp [joinT]; omega
theorem joinT_step (T T' : List (List Int)) (n i : Nat) (h : i < T'.length) : joinT T T' n (i + 1) = joinT T T' n i ++ [shiftT n T'[i]] := by
  unfold joinT
  rw [List.take_succ_eq_append_getElem h, List.map_append, List.map_singleton, List.append_assoc]
/-- A mesh if it is valid. -/
def joinV (P : List S42) (T : List (List Int)) : List S42 × List (List Int) × Bool := if validB P.length T = true then (P, T, true) else ([], [], false)
/-- What JoinMeshes answers. -/
def joinR (Q : List S42) (T : List (List Int)) (Q' : List S42) (T' : List (List Int)) : List S42 × List (List Int) × Bool := if validB Q.length T = true ∧ validB Q'.length T' = true then joinV (Q ++ Q') (joinT T T' Q.length T'.length) else ([], [], false)
theorem boxes3 (w : World) (t : TypeId) (u0 u1 v0 v1 x0 x1 : Value) : BoxAt (((w.alloc (.cells #[u0, u1] t)).alloc (.cells #[v0, v1] t)).alloc (.cells #[x0, x1] t)) w.heap.size t u0 u1 ∧ BoxAt (((w.alloc (.cells #[u0, u1] t)).alloc (.cells #[v0, v1] t)).alloc (.cells #[x0, x1] t)) (w.heap.size + 1) t v0 v1 ∧ BoxAt (((w.alloc (.cells #[u0, u1] t)).alloc (.cells #[v0, v1] t)).alloc (.cells #[x0, x1] t)) (w.heap.size + 1 + 1) t x0 x1 ∧ Below w.heap.size w (((w.alloc (.cells #[u0, u1] t)).alloc (.cells #[v0, v1] t)).alloc (.cells #[x0, x1] t)) := by
  have e1 : (w.alloc (.cells #[u0, u1] t)).heap.size = w.heap.size + 1 := by simp
  have e2 : ((w.alloc (.cells #[u0, u1] t)).alloc (.cells #[v0, v1] t)).heap.size = w.heap.size + 1 + 1 := by simp
  have b1 := below_alloc (Below.refl (w.alloc (.cells #[u0, u1] t)).heap.size (w.alloc (.cells #[u0, u1] t))) (.cells #[v0, v1] t)
  have b2 := below_alloc (Below.refl ((w.alloc (.cells #[u0, u1] t)).alloc (.cells #[v0, v1] t)).heap.size ((w.alloc (.cells #[u0, u1] t)).alloc (.cells #[v0, v1] t))) (.cells #[x0, x1] t)
  have n2 := BoxAt.new (w.alloc (.cells #[u0, u1] t)) t v0 v1
  have n3 := BoxAt.new ((w.alloc (.cells #[u0, u1] t)).alloc (.cells #[v0, v1] t)) t x0 x1
  rw [e1] at n2
  rw [e2] at n3
  exact ⟨((BoxAt.new w t u0 u1).below b1).below b2, n2.below b2, n3, below_alloc (below_alloc (below_alloc (Below.refl _ _) _) _) _⟩
theorem R_boxset {α : Type} {d : Kd α} {e : Nat} {w : World} {base : Nat} {v : Value} {xs : List α} (h : d.R e w base (fun _ => True) v xs) {g t : Nat} {cells : Array Value} (hb : w.heap[g]? = some (.cells cells t (0, 0))) (ht : ∀ q, q ∈ e :: d.E → q ≠ t) (j : Nat) (u : Value) : d.R e (w.setCell ⟨g, j, none⟩ u) base (fun _ => True) v xs :=
  Kd.R_mono (Kd.R_far (p := ⟨g, j, none⟩) (Kd.R_types h hb ht) (fun _ hk => hk.2) u) (fun _ _ => trivial)
end Go.Proofs.Ytepilofcionekaa
namespace Go.Proofs.Ytepilofcionekaa
open Fl Go.RowKit Go.Proofs.YtepilofcionekaaW.PrintWords Go.Proofs.YtepilofcionekaaW.PrintLast Go.Proofs.YtepilofcionekaaW.PrintMore Go.Proofs.Ytepilofcionekaa.PMesh Msh
set_option linter.unusedVariables false
set_option linter.unusedSimpArgs false

/-- Bits of a value. -/
def canB (X : Option Nat) : Nat := X.getD 2143289344
theorem canB_sim {r : Nat} {X : Option Nat} (h : FR .f32 r X) : simF r (canB X) = true := by
  obtain ⟨h1, h2⟩ := h
  replace h1 : r < 4294967296 := h1
  cases X with
  | none => exact simF_iff.2 ⟨h1, by decide, h2.trans (by decide +kernel)⟩
  | some b => obtain rfl := val_some h2; exact simF_iff.2 ⟨h1, h1, rfl⟩
def moveV (v0 v1 v2 : Nat) (x : S42) : S42 := ⟨canB (bin .add .f32 (val .f32 x.f0) (val .f32 v0)), canB (bin .add .f32 (val .f32 x.f1) (val .f32 v1)), canB (bin .add .f32 (val .f32 x.f2) (val .f32 v2))⟩
def scaleV (v : Nat) (x : S42) : S42 := ⟨canB (bin .mul .f32 (val .f32 x.f0) (val .f32 v)), canB (bin .mul .f32 (val .f32 x.f1) (val .f32 v)), canB (bin .mul .f32 (val .f32 x.f2) (val .f32 v))⟩
/-- What MoveMesh answers. -/
def moveR (Q : List S42) (T : List (List Int)) (v0 v1 v2 : Nat) : List S42 × List (List Int) × Bool := if validB Q.length T = true then (Q.map (moveV v0 v1 v2), T, true) else ([], [], false)
/-- What ScaleMesh answers. -/
def scaleR (Q : List S42) (T : List (List Int)) (v0 : Nat) : List S42 × List (List Int) × Bool := if validB Q.length T = true then (Q.map (scaleV v0), T, true) else ([], [], false)
theorem move_small (Q : List S42) (T : List (List Int)) (v0 v1 v2 : Nat) : (moveR Q T v0 v1 v2).1.length ≤ 1048576 ∧ (moveR Q T v0 v1 v2).2.1.length ≤ 1048576 ∧ ∀ t ∈ (moveR Q T v0 v1 v2).2.1, t.length ≤ 1048576 := by
  unfold moveR
  split
  · rename_i hv
    obtain ⟨a1, a2, a3⟩ := valid_rows hv
    exact ⟨by show (Q.map _).length ≤ _; rw [List.length_map]; omega, by show T.length ≤ _; omega, fun t ht => by have := a3 t ht; omega⟩
  · exact ⟨by simp, by simp, by simp⟩
theorem scale_small (Q : List S42) (T : List (List Int)) (v0 : Nat) : (scaleR Q T v0).1.length ≤ 1048576 ∧ (scaleR Q T v0).2.1.length ≤ 1048576 ∧ ∀ t ∈ (scaleR Q T v0).2.1, t.length ≤ 1048576 := by
  unfold scaleR
  split
  · rename_i hv
    obtain ⟨a1, a2, a3⟩ := valid_rows hv
    exact ⟨by show (Q.map _).length ≤ _; rw [List.length_map]; omega, by show T.length ≤ _; omega, fun t ht => by have := a3 t ht; omega⟩
  · exact ⟨by simp, by simp, by simp⟩
/-- The first i places are changed, up to what no law sees. -/
def PartP (f : S42 → S42) (Q l : List S42) (i : Nat) : Prop := l.length = Q.length ∧ (∀ j (h : j < l.length) (h' : j < Q.length), j < i → simV l[j] (f Q[j])) ∧ ∀ j (h : j < l.length) (h' : j < Q.length), i ≤ j → l[j] = Q[j]
theorem PartP.zero (f : S42 → S42) (Q : List S42) : PartP f Q Q 0 := ⟨rfl, fun j _ _ h => absurd h (Nat.not_lt_zero _), fun _ _ _ _ => rfl⟩
theorem PartP.at_ {f : S42 → S42} {Q l : List S42} {i : Nat} (h : PartP f Q l i) (hi : i < Q.length) : l.getD i ⟨0, 0, 0⟩ = Q[i] := by
  have hl : i < l.length := by rw [h.1]; exact hi
  rw [List.getD_eq_getElem?_getD, List.getElem?_eq_getElem hl]
  exact h.2.2 i hl hi (Nat.le_refl _)
theorem PartP.set {f : S42 → S42} {Q l : List S42} {i : Nat} {y : S42} (h : PartP f Q l i) (hi : i < Q.length) (hy : simV y (f Q[i])) : PartP f Q (l.set i y) (i + 1) := by
  refine ⟨by rw [List.length_set]; exact h.1, fun j hj hj' hlt => ?_, fun j hj hj' hle => ?_⟩
  · by_cases he : i = j
    · subst he; rw [List.getElem_set_self]; exact hy
    · rw [List.getElem_set_ne he]; exact h.2.1 j _ hj' (by omega)
  · rw [List.getElem_set_ne (by omega)]; exact h.2.2 j _ hj' (by omega)
theorem PartP.all_ {f : S42 → S42} {Q l : List S42} (h : PartP f Q l Q.length) : simP l (Q.map f) := ⟨by rw [List.length_map]; exact h.1, fun i ha hb => by rw [List.getElem_map]; exact h.2.1 i ha (by rw [List.length_map] at hb; exact hb) (by rw [List.length_map] at hb; exact hb)⟩
/-- Three cells of a block written keep all but it. -/
theorem below_set3 {w W : World} {g j : Nat} {u v x : Value} (h : Below w.heap.size w W) (hg : w.heap.size ≤ g) : Below w.heap.size w (W.setCells g j [u, v, x]) := below_set (below_set (below_set h hg) hg) hg
theorem boxes2m (w : World) (t t' : TypeId) (u0 u1 x0 x1 : Value) : BoxAt ((w.alloc (.cells #[u0, u1] t)).alloc (.cells #[x0, x1] t')) w.heap.size t u0 u1 ∧ BoxAt ((w.alloc (.cells #[u0, u1] t)).alloc (.cells #[x0, x1] t')) (w.heap.size + 1) t' x0 x1 ∧ Below w.heap.size w ((w.alloc (.cells #[u0, u1] t)).alloc (.cells #[x0, x1] t')) := by
  have e1 : (w.alloc (.cells #[u0, u1] t)).heap.size = w.heap.size + 1 := by simp
  have b1 := below_alloc (Below.refl (w.alloc (.cells #[u0, u1] t)).heap.size (w.alloc (.cells #[u0, u1] t))) (.cells #[x0, x1] t')
  have n2 := BoxAt.new (w.alloc (.cells #[u0, u1] t)) t' x0 x1
  rw [e1] at n2
  exact ⟨(BoxAt.new w t u0 u1).below b1, n2, below_alloc (below_alloc (Below.refl _ _) _) _⟩
theorem boxes3m (w : World) (t tv t' : TypeId) (u0 u1 x0 x1 : Value) (v0 v1 v2 : Nat) : BoxAt (((w.alloc (.cells #[u0, u1] t)).alloc (.cells #[.float .f32 v0, .float .f32 v1, .float .f32 v2] tv)).alloc (.cells #[x0, x1] t')) w.heap.size t u0 u1 ∧ BoxT (((w.alloc (.cells #[u0, u1] t)).alloc (.cells #[.float .f32 v0, .float .f32 v1, .float .f32 v2] tv)).alloc (.cells #[x0, x1] t')) (w.heap.size + 1) tv v0 v1 v2 ∧ BoxAt (((w.alloc (.cells #[u0, u1] t)).alloc (.cells #[.float .f32 v0, .float .f32 v1, .float .f32 v2] tv)).alloc (.cells #[x0, x1] t')) (w.heap.size + 1 + 1) t' x0 x1 ∧ Below w.heap.size w (((w.alloc (.cells #[u0, u1] t)).alloc (.cells #[.float .f32 v0, .float .f32 v1, .float .f32 v2] tv)).alloc (.cells #[x0, x1] t')) := by
  have e1 : (w.alloc (.cells #[u0, u1] t)).heap.size = w.heap.size + 1 := by simp
  have e2 : ((w.alloc (.cells #[u0, u1] t)).alloc (.cells #[.float .f32 v0, .float .f32 v1, .float .f32 v2] tv)).heap.size = w.heap.size + 1 + 1 := by simp
  have b1 := below_alloc (Below.refl (w.alloc (.cells #[u0, u1] t)).heap.size (w.alloc (.cells #[u0, u1] t))) (.cells #[.float .f32 v0, .float .f32 v1, .float .f32 v2] tv)
  have b2 := below_alloc (Below.refl ((w.alloc (.cells #[u0, u1] t)).alloc (.cells #[.float .f32 v0, .float .f32 v1, .float .f32 v2] tv)).heap.size ((w.alloc (.cells #[u0, u1] t)).alloc (.cells #[.float .f32 v0, .float .f32 v1, .float .f32 v2] tv))) (.cells #[x0, x1] t')
  have n2 := BoxT.new (w.alloc (.cells #[u0, u1] t)) tv v0 v1 v2
  have n3 := BoxAt.new ((w.alloc (.cells #[u0, u1] t)).alloc (.cells #[.float .f32 v0, .float .f32 v1, .float .f32 v2] tv)) t' x0 x1
  rw [e1] at n2
  rw [e2] at n3
  exact ⟨((BoxAt.new w t u0 u1).below b1).below b2, n2.below b2, n3, below_alloc (below_alloc (below_alloc (Below.refl _ _) _) _) _⟩
section
variable {P : Program} {ops : Array Oper} {Q : Exit → Act → World → Prop}
/-- A call of a function value that lies in a slot (as goes_). -/
theorem goesV_ {oi : Oper} {N : Option Tmp} {a : Act} {w : World} {K : Act → World → Prop} {f : FuncId} {fn : Func} {xs_ : Array Operand} {ts : Array TypeId} {t : Tmp} {cap : Array Value} (hf : P.funcs[f]? = some fn) (hname : (fn.name == "runtime.NumGoroutine") = false) (hb : fn.body.isSome = true) (args : Array Value)
    (hw : Region.wanted oi (yielded ops a.tmps) = true) (hN : oi.dst = N) (hop : oi.op = .call { callee := .value (.tmp t), args := xs_, argTypes := ts }) (hv : a.eval (.tmp t) = .func (.func f) #[] cap) (hargs : xs_.map a.eval ++ cap = args)
    (h : Calls P f args w fun e w' => ∃ v, e = .returned v ∧ K (a.put N v) w') : if Region.wanted oi (yielded ops a.tmps) = true then Oper.wp P oi a w K Q else K (a.put N undef) w := by
  refine call_ f args hw hN ?_ h
  have he := enters_ hf hname hb args w
  unfold execOp
  simp [hop, resolve, Deferred.ofValue, invoke, hv]
  rw [hargs]
  exact he
end
/-- A variable that holds a number of type t: its block. -/
def Box1 (W : World) (g : Nat) (t : TypeId) (p : Nat) : Prop := W.heap[g]? = some (.cells #[.float .f32 p] t (0, 0))
theorem Box1.below {W W' : World} {g p : Nat} {t : TypeId} (h : Box1 W g t p) (hb : Below W.heap.size W W') : Box1 W' g t p := (hb.block g (blk_lt h)).trans h
theorem Box1.c0 {W : World} {g p : Nat} {t : TypeId} (h : Box1 W g t p) : W.cell? ⟨g, 0, none⟩ = some (.float .f32 p) := (blk_cell h 0).trans rfl
end Go.Proofs.Ytepilofcionekaa
namespace Go.Proofs.Ytepilofcionekaa
open Fl Go.RowKit Go.Proofs.YtepilofcionekaaW.PrintWords Go.Proofs.YtepilofcionekaaW.PrintLast Go.Proofs.YtepilofcionekaaW.PrintMore Go.Proofs.Ytepilofcionekaa.PMesh Msh
set_option linter.unusedVariables false

section
variable {P : Program} {ops : Array Oper} {rest : List Oper} {o : Oper} {a : Act} {Q : Exit → Act → World → Prop} {Kc : Act → World → Prop} {α : Type}
theorem zip_two (xs : List α) (p q : α) : (xs ++ [p, q]).zipIdx = xs.zipIdx ++ [(p, xs.length), (q, xs.length + 1)] := by
  rw [List.zipIdx_append]; simp
open Classical in
theorem S_append2 (d : Kd α) (hd : d.sz = 1) {w0 W : World} (base : Nat) (hgd : o.guard = none) (s x : Operand) (t e : TypeId) (z : Value) (bytes : Nat)
    (ho : o.op = .call { callee := .builtin .append, args := #[s, x], argTypes := #[t, t] })
    (ht : P.underlying t = some (.slice e)) (hinfo : (P.info? e).map (fun i => (i.zero, i.size, i.bytes)) = some (some z, d.sz, bytes)) (hz : z.cells.size = d.sz) (hb0 : 0 < bytes)
    (v : Value) (xs : List α) (p q : α) (u1 u2 : Value) (g : Nat) (ok okp okq : Nat → Prop) (hs : a.eval s = v) (hx : a.eval x = .slice (some ⟨g, 0, none⟩) 2 2) (hc1 : W.cell? ⟨g, 0, none⟩ = some u1) (hc2 : W.cell? ⟨g, 1, none⟩ = some u2)
    (hp : d.M W base okp p [u1]) (hq : d.M W base okq q [u2]) (hokp : ∀ k, okp k → ok k ∧ some k ≠ v.ownBlock) (hokq : ∀ k, okq k → ok k ∧ some k ≠ v.ownBlock) (hpq : ∀ k, okp k → ¬ okq k) (hfresh : ∀ k, W.heap.size ≤ k → ok k)
    (HO : Kd.S d e W base (fun k => ok k ∧ ¬ okp k ∧ ¬ okq k) v xs) (HB : Below base w0 W) (hbase : base ≤ W.heap.size) (hl : (xs.length + 2) * bytes ≤ 140737488355328)
    (h : ∀ v1 w1, Kd.S d e w1 base ok v1 (xs ++ [p, q]) → Below base w0 w1 → W.grownBy w1 v.ownBlock → (v1.ownBlock = v.ownBlock ∨ ∃ b, v1.ownBlock = some b ∧ W.heap.size ≤ b) → wpList P ops Q rest (a.put o.dst v1) w1) :
    wpList P ops Q (o :: rest) a W := by
  obtain ⟨f, hR⟩ := HO
  have hR' : (Kd.tag (fun k => if okp k then xs.length else if okq k then xs.length + 1 else f k) d).R e W base (fun k => ok k ∧ ¬ okp k ∧ ¬ okq k) v xs.zipIdx :=
    Kd.R_tag hR (fun k hk _ => by show (if okp k then _ else if okq k then _ else f k) = f k; rw [if_neg hk.2.1, if_neg hk.2.2])
  refine Kd.R_append_rows (Kd.tag (fun k => if okp k then xs.length else if okq k then xs.length + 1 else f k) d) (Rr := fun y cs => (y = (p, xs.length) ∧ cs = [u1]) ∨ (y = (q, xs.length + 1) ∧ cs = [u2])) base hgd s x t e z bytes ho ht hinfo hz (by show 0 < d.sz; omega) hb0 v xs.zipIdx [(p, xs.length), (q, xs.length + 1)] (some ⟨g, 0, none⟩) 2 2 ok (fun k => okp k ∨ okq k) hs hx (Kd.R_mono hR' (fun _ hk => hk.1)) ⟨rfl, by decide, fun _ => ⟨_, rfl, ?_⟩⟩ ?_ (fun k hk => hk.elim (hokp k) (hokq k)) hfresh HB hbase (by rw [List.length_zipIdx]; exact hl) ?_
  · intro j y hj
    show ∃ c : List Value, c.length = d.sz ∧ _ ∧ ∀ i u, c[i]? = some u → W.cell? _ = some u
    rcases j with _ | _ | j
    · simp only [List.getElem?_cons_zero, Option.some.injEq] at hj
      refine ⟨[u1], by rw [hd]; rfl, Or.inl ⟨hj.symm, rfl⟩, fun i u hu => ?_⟩
      rcases i with _ | i
      · simp only [List.getElem?_cons_zero, Option.some.injEq] at hu
        rw [← hu]
        show W.cell? (Addr.add ⟨g, 0, none⟩ (0 * d.sz + 0)) = _
        rw [hd, add_at]; exact hc1
      · simp at hu
    · simp only [List.getElem?_cons_succ, List.getElem?_cons_zero, Option.some.injEq] at hj
      refine ⟨[u2], by rw [hd]; rfl, Or.inr ⟨hj.symm, rfl⟩, fun i u hu => ?_⟩
      rcases i with _ | i
      · simp only [List.getElem?_cons_zero, Option.some.injEq] at hu
        rw [← hu]
        show W.cell? (Addr.add ⟨g, 0, none⟩ ((0 + 1) * d.sz + 0)) = _
        rw [hd, add_at]; exact hc2
      · simp at hu
    · simp at hj
  · rintro y cs (⟨rfl, rfl⟩ | ⟨rfl, rfl⟩)
    · exact d.M_mono (fun k hk => ⟨Or.inl hk, if_pos hk⟩) hp
    · exact d.M_mono (fun k hk => ⟨Or.inr hk, by show (if okp k then _ else if okq k then _ else f k) = xs.length + 1; rw [if_neg (fun h2 => hpq k h2 hk), if_pos hk]⟩) hq
  · intro v1 w1 hr
    rw [← zip_two] at hr
    exact h v1 w1 ⟨_, hr⟩
open Classical in
theorem S_append2_step (d : Kd α) (hd : d.sz = 1) {w0 W : World} (base : Nat) (hw : Region.wanted o (yielded ops a.tmps) = true) (s x : Operand) (t e : TypeId) (z : Value) (bytes : Nat)
    (ho : o.op = .call { callee := .builtin .append, args := #[s, x], argTypes := #[t, t] })
    (ht : P.underlying t = some (.slice e)) (hinfo : (P.info? e).map (fun i => (i.zero, i.size, i.bytes)) = some (some z, d.sz, bytes)) (hz : z.cells.size = d.sz) (hb0 : 0 < bytes)
    (v : Value) (xs : List α) (p q : α) (u1 u2 : Value) (g : Nat) (ok okp okq : Nat → Prop) (hs : a.eval s = v) (hx : a.eval x = .slice (some ⟨g, 0, none⟩) 2 2) (hc1 : W.cell? ⟨g, 0, none⟩ = some u1) (hc2 : W.cell? ⟨g, 1, none⟩ = some u2)
    (hp : d.M W base okp p [u1]) (hq : d.M W base okq q [u2]) (hokp : ∀ k, okp k → ok k ∧ some k ≠ v.ownBlock) (hokq : ∀ k, okq k → ok k ∧ some k ≠ v.ownBlock) (hpq : ∀ k, okp k → ¬ okq k) (hfresh : ∀ k, W.heap.size ≤ k → ok k)
    (HO : Kd.S d e W base (fun k => ok k ∧ ¬ okp k ∧ ¬ okq k) v xs) (HB : Below base w0 W) (hbase : base ≤ W.heap.size) (hl : (xs.length + 2) * bytes ≤ 140737488355328)
    (h : ∀ v1 w1, Kd.S d e w1 base ok v1 (xs ++ [p, q]) → Below base w0 w1 → W.grownBy w1 v.ownBlock → (v1.ownBlock = v.ownBlock ∨ ∃ b, v1.ownBlock = some b ∧ W.heap.size ≤ b) → Kc (a.put o.dst v1) w1) :
    if Region.wanted o (yielded ops a.tmps) = true then Oper.wp P o a W Kc Q else Kc (a.put o.dst undef) W := by
  obtain ⟨f, hR⟩ := HO
  have hR' : (Kd.tag (fun k => if okp k then xs.length else if okq k then xs.length + 1 else f k) d).R e W base (fun k => ok k ∧ ¬ okp k ∧ ¬ okq k) v xs.zipIdx :=
    Kd.R_tag hR (fun k hk _ => by show (if okp k then _ else if okq k then _ else f k) = f k; rw [if_neg hk.2.1, if_neg hk.2.2])
  refine Kd.R_append_rows_step (Kd.tag (fun k => if okp k then xs.length else if okq k then xs.length + 1 else f k) d) (Rr := fun y cs => (y = (p, xs.length) ∧ cs = [u1]) ∨ (y = (q, xs.length + 1) ∧ cs = [u2])) base hw s x t e z bytes ho ht hinfo hz (by show 0 < d.sz; omega) hb0 v xs.zipIdx [(p, xs.length), (q, xs.length + 1)] (some ⟨g, 0, none⟩) 2 2 ok (fun k => okp k ∨ okq k) hs hx (Kd.R_mono hR' (fun _ hk => hk.1)) ⟨rfl, by decide, fun _ => ⟨_, rfl, ?_⟩⟩ ?_ (fun k hk => hk.elim (hokp k) (hokq k)) hfresh HB hbase (by rw [List.length_zipIdx]; exact hl) ?_
  · intro j y hj
    show ∃ c : List Value, c.length = d.sz ∧ _ ∧ ∀ i u, c[i]? = some u → W.cell? _ = some u
    rcases j with _ | _ | j
    · simp only [List.getElem?_cons_zero, Option.some.injEq] at hj
      refine ⟨[u1], by rw [hd]; rfl, Or.inl ⟨hj.symm, rfl⟩, fun i u hu => ?_⟩
      rcases i with _ | i
      · simp only [List.getElem?_cons_zero, Option.some.injEq] at hu
        rw [← hu]
        show W.cell? (Addr.add ⟨g, 0, none⟩ (0 * d.sz + 0)) = _
        rw [hd, add_at]; exact hc1
      · simp at hu
    · simp only [List.getElem?_cons_succ, List.getElem?_cons_zero, Option.some.injEq] at hj
      refine ⟨[u2], by rw [hd]; rfl, Or.inr ⟨hj.symm, rfl⟩, fun i u hu => ?_⟩
      rcases i with _ | i
      · simp only [List.getElem?_cons_zero, Option.some.injEq] at hu
        rw [← hu]
        show W.cell? (Addr.add ⟨g, 0, none⟩ ((0 + 1) * d.sz + 0)) = _
        rw [hd, add_at]; exact hc2
      · simp at hu
    · simp at hj
  · rintro y cs (⟨rfl, rfl⟩ | ⟨rfl, rfl⟩)
    · exact d.M_mono (fun k hk => ⟨Or.inl hk, if_pos hk⟩) hp
    · exact d.M_mono (fun k hk => ⟨Or.inr hk, by show (if okp k then _ else if okq k then _ else f k) = xs.length + 1; rw [if_neg (fun h2 => hpq k h2 hk), if_pos hk]⟩) hq
  · intro v1 w1 hr
    rw [← zip_two] at hr
    exact h v1 w1 ⟨_, hr⟩
end
end Go.Proofs.Ytepilofcionekaa
namespace Go.Proofs.Ytepilofcionekaa
open Fl Go.RowKit Go.Proofs.YtepilofcionekaaW.PrintWords Go.Proofs.YtepilofcionekaaW.PrintLast Go.Proofs.YtepilofcionekaaW.PrintMore Go.Proofs.Ytepilofcionekaa.PMesh Msh
set_option linter.unusedVariables false
set_option linter.unusedSimpArgs false

/-- A place of a grid, its rows m long. -/
def gptV (v m k : Nat) : S42 := ⟨canB (bin .mul .f32 (val .f32 (floatOfInt .f32 ((k % m : Nat) : Int))) (val .f32 v)), canB (bin .mul .f32 (val .f32 (floatOfInt .f32 ((k / m : Nat) : Int))) (val .f32 v)), 0⟩
def gridP (W H v : Nat) : List S42 := (List.range ((H + 1) * (W + 1))).map (gptV v (W + 1))
/-- The two triangles of a cell. -/
def triA (W x y : Nat) : List Int := [(x : Int) + ((W : Int) + 1) * (y : Int), (x : Int) + ((W : Int) + 1) * (y : Int) + 1, (x : Int) + ((W : Int) + 1) * (y : Int) + (W : Int) + 1 + 1]
def triC (W x y : Nat) : List Int := [(x : Int) + ((W : Int) + 1) * (y : Int), (x : Int) + ((W : Int) + 1) * (y : Int) + (W : Int) + 1 + 1, (x : Int) + ((W : Int) + 1) * (y : Int) + (W : Int) + 1]
def gridTn (W n : Nat) : List (List Int) := (List.range n).flatMap fun k => [triA W (k % W) (k / W), triC W (k % W) (k / W)]
def gridT (W H : Nat) : List (List Int) := gridTn W (H * W)
theorem gridTn_succ (W n : Nat) : gridTn W (n + 1) = gridTn W n ++ [triA W (n % W) (n / W), triC W (n % W) (n / W)] := by unfold gridTn; rw [List.range_succ, List.flatMap_append]; simp
theorem gridTn_len (W n : Nat) : (gridTn W n).length = 2 * n := by
  induction n with
  | zero => rfl
  | succ n ih => rw [gridTn_succ, List.length_append, ih]; simp; omega
/-- Whether a grid can be made. -/
def gridOk (wide high : Int) (v : Nat) : Bool := decide (1 ≤ wide ∧ wide ≤ 64) && decide (1 ≤ high ∧ high ≤ 64) && decide ((wide + 1) * (high + 1) ≤ 64) && G8.sizeB v
/-- What GridMesh answers. -/
def gridR (wide high : Int) (v : Nat) : List S42 × List (List Int) × Bool := if gridOk wide high v = true then joinV (gridP wide.toNat high.toNat v) (gridT wide.toNat high.toNat) else ([], [], false)
/-- n places of a grid, up to what no law sees. -/
def PL (v m n : Nat) (l : List S42) : Prop := simP l ((List.range n).map (gptV v m))
theorem PL.len {v m n : Nat} {l : List S42} (h : PL v m n l) : l.length = n := by have := h.1; rwa [List.length_map, List.length_range] at this
theorem PL.zero (v m : Nat) : PL v m 0 [] := simP_nil
theorem PL.step {v m x y : Nat} {l : List S42} (h : PL v m (y * m + x) l) (hx : x < m) {p q : Nat} (hp : FR .f32 p (bin .mul .f32 (val .f32 (floatOfInt .f32 (x : Int))) (val .f32 v))) (hq : FR .f32 q (bin .mul .f32 (val .f32 (floatOfInt .f32 (y : Int))) (val .f32 v))) : PL v m (y * m + (x + 1)) (l ++ [⟨p, q, 0⟩]) := by
  have e1 : (y * m + x) % m = x := by rw [Nat.add_comm, Nat.add_mul_mod_self_right, Nat.mod_eq_of_lt hx]
  have e2 : (y * m + x) / m = y := by rw [Nat.add_comm, Nat.add_mul_div_right _ _ (by omega), Nat.div_eq_of_lt hx, Nat.zero_add]
  unfold PL
  rw [show y * m + (x + 1) = (y * m + x) + 1 from rfl, List.range_succ, List.map_append, List.map_singleton]
  refine simP_append h (simP_one ?_)
  unfold gptV
  rw [e1, e2]
  exact ⟨canB_sim hp, canB_sim hq, simF_self (show 0 < 4294967296 by decide)⟩
theorem gridTn_step (W x y : Nat) (hx : x < W) : gridTn W (y * W + (x + 1)) = gridTn W (y * W + x) ++ [triA W x y, triC W x y] := by
  have e1 : (y * W + x) % W = x := by rw [Nat.add_comm, Nat.add_mul_mod_self_right, Nat.mod_eq_of_lt hx]
  have e2 : (y * W + x) / W = y := by rw [Nat.add_comm, Nat.add_mul_div_right _ _ (by omega), Nat.div_eq_of_lt hx, Nat.zero_add]
  rw [show y * W + (x + 1) = (y * W + x) + 1 from rfl, gridTn_succ, e1, e2]
theorem PL.row {v m y : Nat} {l : List S42} (h : PL v m (y * m + m) l) : PL v m ((y + 1) * m) l := by rwa [Nat.succ_mul]
/-- A mesh is handed back: its places up to what no law sees. -/
def AnsG (w : World) (P : List S42) (T : List (List Int)) (E : Ending) (w' : World) : Prop := ∃ P' A c B e, simP P' P ∧ E = .returned (.agg #[.slice A P.length c, .slice B T.length e]) ∧ OwnM w' w.heap.size w'.heap.size (.slice A P.length c) (.slice B T.length e) P' T ∧ Below w.heap.size w w'
theorem grid_small (wide high : Int) (v : Nat) : (gridR wide high v).1.length ≤ 1048576 ∧ (gridR wide high v).2.1.length ≤ 1048576 ∧ ∀ t ∈ (gridR wide high v).2.1, t.length ≤ 1048576 := by
  unfold gridR joinV
  split
  · split
    · rename_i hv
      obtain ⟨v1, v2, v3⟩ := valid_rows hv
      exact ⟨by show (gridP _ _ _).length ≤ _; omega, by show (gridT _ _).length ≤ _; omega, fun t ht => by have := v3 t ht; omega⟩
    · exact ⟨by simp, by simp, by simp⟩
  · exact ⟨by simp, by simp, by simp⟩
end Go.Proofs.Ytepilofcionekaa
namespace Go.Proofs.Ytepilofcionekaa
open Fl Go.RowKit
set_option linter.unusedVariables false

/-- x - x == 0. -/
def isFin (X : Option Nat) : Bool := cmp .f32 (bin .sub .f32 X X) (some 0) == some .eq

theorem impl_IsFinite (x : Nat) (w : World) : Calls Try.prog 96 #[.float .f32 x] w fun e w' => e = .returned (.bool (isFin (val .f32 x))) ∧ ∃ n, w' = w.drewN n := by
  go_enter Try.func96, Try.ntmps96
  go_wp2_with (refine wpList_fbin rfl _ _ _ _ _ rfl (by decide) _ _ _ rfl rfl ?_; intro r n hr)
  go_ret
  refine ⟨?_, n, rfl⟩
  show Ending.returned (.bool (FloatKind.f32.format.order r 0 == some .eq)) = _
  rw [order_cmp, hr.val]; rfl

theorem spec_l01Finite (x : Nat) (w : World) : Calls Try.prog 95 #[.float .f32 x] w fun e w' => e = .returned (.bool (isFin (val .f32 x))) ∧ ∃ n, w' = w.drewN n := by
  go_enter Try.func95, Try.ntmps95
  go_wp2_with (refine wpList_fbin rfl _ _ _ _ _ rfl (by decide) _ _ _ rfl rfl ?_; intro r n hr)
  go_ret
  refine ⟨?_, n, rfl⟩
  show Ending.returned (.bool (FloatKind.f32.format.order r 0 == some .eq)) = _
  rw [order_cmp, hr.val]; rfl

theorem below_drewN (w : World) (n : Nat) : Below w.heap.size w (w.drewN n) := ⟨rfl, rfl, rfl, Nat.le_refl _, fun _ _ => rfl⟩

end Go.Proofs.Ytepilofcionekaa
namespace Go.Proofs.Ytepilofcionekaa.Fl
open Ieee
set_option linter.unusedVariables false

/-- The value of a finite word, in units of the least place. -/
def iv (f : Format) (b : Nat) : Int := sg (sgn f b) (mg f (rung f b))

/-- A word next to the exact value v / 2^B (in units). -/
structure Near (f : Format) (r : Nat) (v : Int) (B : Nat) : Prop where
  ex : ∃ r0 L, rung f r = min r0 f.infRung ∧ (∀ s, mg f s * 2 ^ B ≤ v.natAbs → s ≤ r0) ∧ (∀ s, v.natAbs ≤ mg f s * 2 ^ B → r0 ≤ s) ∧
    (L = 0 ∨ 2 ^ (f.fractionBits + L) * 2 ^ B ≤ v.natAbs) ∧ 2 * v.natAbs ≤ 2 * (mg f r0 * 2 ^ B) + 2 ^ L * 2 ^ B ∧ 2 * (mg f r0 * 2 ^ B) ≤ 2 * v.natAbs + 2 ^ L * 2 ^ B
  sign : v ≠ 0 → sgn f r = decide (v < 0)

theorem Near.le {f : Format} {r : Nat} {v : Int} {B : Nat} (h : Near f r v B) {s : Nat} (hs : v.natAbs ≤ mg f s * 2 ^ B) : rung f r ≤ s := by
  obtain ⟨r0, L, hr, _, h2, _⟩ := h.ex
  have := h2 s hs
  omega

theorem Near.ge {f : Format} {r : Nat} {v : Int} {B : Nat} (h : Near f r v B) {s : Nat} (hsi : s ≤ f.infRung) (hs : mg f s * 2 ^ B ≤ v.natAbs) : s ≤ rung f r := by
  obtain ⟨r0, L, hr, h1, _, _⟩ := h.ex
  have := h1 s hs
  omega

theorem Near.eq {f : Format} {r : Nat} {v : Int} {B : Nat} (h : Near f r v B) {s : Nat} (hsi : s ≤ f.infRung) (hs : mg f s * 2 ^ B = v.natAbs) : rung f r = s := by
  have a := h.le (s := s) (by omega)
  have b := h.ge hsi (by omega)
  omega

/-- What 'nearest' gives, as a word next to the value. -/
theorem near_nearest (f : Format) (neg : Bool) (mag : Nat) (p : Int) (A B : Nat) (hp : p + B = f.leastPlace + A) (v : Int) (hv : v.natAbs = mag * 2 ^ A) (hs : v ≠ 0 → neg = decide (v < 0)) :
    Near f (f.nearest neg mag p) v B := by
  obtain ⟨r0, L, hne, h1, h2, h3, h4, h5⟩ := nearest_spec f neg mag p A B hp
  refine ⟨⟨r0, L, ?_, ?_, ?_, ?_, ?_, ?_⟩, ?_⟩
  · rw [hne]; exact rung_word f neg (Nat.min_le_right _ _)
  · rw [hv]; exact h1
  · rw [hv]; exact h2
  · rw [hv]; exact h3
  · rw [hv]; exact h4
  · rw [hv]; exact h5
  · intro h; rw [hne, sgn_word f neg (Nat.min_le_right _ _)]; exact hs h

theorem sg_natAbs (s : Bool) (m : Nat) : (sg s m).natAbs = m := by unfold sg; cases s <;> simp

theorem sg_sign (s : Bool) (M : Nat) : sg s M ≠ 0 → s = decide (sg s M < 0) := by
  unfold sg
  cases s
  · intro _; simp
  · intro h; simp at h ⊢; omega

theorem opposite_fin {f : Format} {b : Nat} {m : Nat} {p : Int} (h : f.read b = .number (sgn f b) m p) : (f.read b).opposite = .number (!sgn f b) m p := by rw [h]; rfl

theorem sum_num (f : Format) (s t : Bool) (m n a b : Nat) : (Datum.number s m (f.leastPlace + a)).sum (.number t n (f.leastPlace + b)) =
    some (.number (if signed s m (a - min a b) + signed t n (b - min a b) = 0 then s && t else decide (signed s m (a - min a b) + signed t n (b - min a b) < 0)) (signed s m (a - min a b) + signed t n (b - min a b)).natAbs (f.leastPlace + (min a b : Nat))) := by
  simp only [Datum.sum]
  have e0 : min (f.leastPlace + (a : Int)) (f.leastPlace + (b : Int)) = f.leastPlace + (min a b : Nat) := by omega
  rw [e0]
  have e1 : (f.leastPlace + (a : Int) - (f.leastPlace + (min a b : Nat))).toNat = a - min a b := by omega
  have e2 : (f.leastPlace + (b : Int) - (f.leastPlace + (min a b : Nat))).toNat = b - min a b := by omega
  rw [e1, e2]

/-- The sum of two finite words of signs s, t and magnitudes x, y. -/
theorem near_sum (f : Format) (s t : Bool) (m n a b : Nat) (v : Int) (hv : v = sg s (m * 2 ^ a) + sg t (n * 2 ^ b)) :
    ∃ d, (Datum.number s m (f.leastPlace + a)).sum (.number t n (f.leastPlace + b)) = some d ∧ Near f (f.write d) v 0 := by
  refine ⟨_, sum_num f s t m n a b, ?_⟩
  have hsc : signed s m (a - min a b) + signed t n (b - min a b) = sg s (m * 2 ^ (a - min a b)) + sg t (n * 2 ^ (b - min a b)) := by rw [signed_sg, signed_sg]
  have hmul : (signed s m (a - min a b) + signed t n (b - min a b)) * ((2 ^ min a b : Nat) : Int) = v := by
    rw [hsc, Int.add_mul, ← sg_mul, ← sg_mul, Nat.mul_assoc, Nat.mul_assoc, ← Nat.pow_add, ← Nat.pow_add, show a - min a b + min a b = a by omega, show b - min a b + min a b = b by omega, hv]
  have hpos : (0 : Int) < ((2 ^ min a b : Nat) : Int) := by exact_mod_cast Nat.two_pow_pos _
  generalize signed s m (a - min a b) + signed t n (b - min a b) = T at *
  show Near f (f.nearest _ _ _) v 0
  refine near_nearest f _ _ _ (min a b) 0 (by omega) v ?_ ?_
  · rw [← hmul, Int.natAbs_mul]; rfl
  · intro hv0
    have hT : T ≠ 0 := by
      intro h; rw [h, Int.zero_mul] at hmul; exact hv0 hmul.symm
    rw [if_neg hT, decide_eq_decide]
    constructor
    · intro h
      have := Int.mul_neg_of_neg_of_pos h hpos
      omega
    · intro h
      refine Int.not_le.1 fun h' => ?_
      have := Int.mul_nonneg h' (Int.le_of_lt hpos)
      omega

theorem near_add (k : FloatKind) {x y : Nat} (hx : rung k.format x < k.format.infRung) (hy : rung k.format y < k.format.infRung) :
    ∃ r, bin .add k (some x) (some y) = some r ∧ Near k.format r (iv k.format x + iv k.format y) 0 := by
  obtain ⟨m, a, e1, e1'⟩ := read_fin k.format hx
  obtain ⟨n, b, e2, e2'⟩ := read_fin k.format hy
  obtain ⟨d, hd, hn⟩ := near_sum k.format (sgn k.format x) (sgn k.format y) m n a b (iv k.format x + iv k.format y) (by unfold iv; rw [e1', e2'])
  refine ⟨k.format.write d, ?_, hn⟩
  show (((k.format.read x).sum (k.format.read y)).map k.format.write) = _
  rw [e1, e2, hd]; rfl

theorem near_sub (k : FloatKind) {x y : Nat} (hx : rung k.format x < k.format.infRung) (hy : rung k.format y < k.format.infRung) :
    ∃ r, bin .sub k (some x) (some y) = some r ∧ Near k.format r (iv k.format x - iv k.format y) 0 := by
  obtain ⟨m, a, e1, e1'⟩ := read_fin k.format hx
  obtain ⟨n, b, e2, e2'⟩ := read_fin k.format hy
  obtain ⟨d, hd, hn⟩ := near_sum k.format (sgn k.format x) (!sgn k.format y) m n a b (iv k.format x - iv k.format y) (by
    unfold iv; rw [e1', e2']
    have : sg (!sgn k.format y) (mg k.format (rung k.format y)) = - sg (sgn k.format y) (mg k.format (rung k.format y)) := by unfold sg; cases sgn k.format y <;> simp
    rw [this]; omega)
  refine ⟨k.format.write d, ?_, hn⟩
  show (((k.format.read x).sum (k.format.read y).opposite).map k.format.write) = _
  rw [e1, opposite_fin e2, hd]; rfl

/-- How far the least place lies below one. -/
@[irreducible] def under (f : Format) : Nat := (-f.leastPlace).toNat

theorem under_eq (k : FloatKind) : k.format.leastPlace = -(under k.format : Int) := by cases k <;> decide +kernel

theorem under_double : under double = 1074 := by decide +kernel

theorem near_mul (k : FloatKind) {x y : Nat} (hx : rung k.format x < k.format.infRung) (hy : rung k.format y < k.format.infRung) :
    ∃ r, bin .mul k (some x) (some y) = some r ∧ Near k.format r (iv k.format x * iv k.format y) (under k.format) := by
  obtain ⟨m, a, e1, e1'⟩ := read_fin k.format hx
  obtain ⟨n, b, e2, e2'⟩ := read_fin k.format hy
  have hl := under_eq k
  refine ⟨k.format.nearest (sgn k.format x ^^ sgn k.format y) (m * n) (k.format.leastPlace + a + (k.format.leastPlace + b)), ?_, ?_⟩
  · show (((k.format.read x).product (k.format.read y)).map k.format.write) = _
    rw [e1, e2]; rfl
  · refine near_nearest _ _ _ _ (a + b) _ (by omega) _ ?_ ?_
    · rw [Int.natAbs_mul]
      unfold iv
      rw [sg_natAbs, sg_natAbs, ← e1', ← e2', Nat.pow_add]
      simp only [Nat.mul_assoc, Nat.mul_left_comm]
    · intro h
      unfold iv sg at h ⊢
      generalize mg k.format (rung k.format x) = X at *
      generalize mg k.format (rung k.format y) = Y at *
      have hX : X ≠ 0 := by intro h0; apply h; rw [h0]; cases sgn k.format x <;> simp
      have hY : Y ≠ 0 := by intro h0; apply h; rw [h0]; cases sgn k.format y <;> simp
      have hpos : (0 : Int) < (X : Int) * (Y : Int) := Int.mul_pos (by omega) (by omega)
      cases sgn k.format x <;> cases sgn k.format y <;> simp [Int.neg_mul, Int.mul_neg] <;> omega

/-- A quotient: its rung is at most s where twice the exact one is at most s's magnitude. -/
theorem quo_le (k : FloatKind) {x y : Nat} (hx : rung k.format x < k.format.infRung) (hy : rung k.format y < k.format.infRung) (hy0 : 0 < rung k.format y) :
    ∃ r, bin .quo k (some x) (some y) = some r ∧ ∀ s, 2 * mg k.format (rung k.format x) * 2 ^ under k.format ≤ mg k.format s * mg k.format (rung k.format y) → rung k.format r ≤ s := by
  obtain ⟨m, a, e1, e1'⟩ := read_fin k.format hx
  obtain ⟨n, b, e2, e2'⟩ := read_fin k.format hy
  have hU := under_eq k
  have hn : n ≠ 0 := by
    intro h; rw [h, Nat.zero_mul] at e2'; have := mg_pos k.format hy0; omega
  let more := k.format.fractionBits + 2 + n.log2 - m.log2
  let D := m <<< more
  refine ⟨k.format.nearest (sgn k.format x ^^ sgn k.format y) (2 * (D / n) + (D % n != 0).toNat) (k.format.leastPlace + a - (k.format.leastPlace + b) - more - 1), ?_, ?_⟩
  · show (((k.format.read x).quotient (k.format.fractionBits + 2) (k.format.read y)).map k.format.write) = _
    rw [e1, e2]
    simp only [Datum.quotient]
    rw [if_neg hn]; rfl
  · intro s hs
    have hnear := near_nearest k.format (sgn k.format x ^^ sgn k.format y) (2 * (D / n) + (D % n != 0).toNat) (k.format.leastPlace + a - (k.format.leastPlace + b) - more - 1) (a + under k.format) (b + more + 1) (by omega) (sg (sgn k.format x ^^ sgn k.format y) ((2 * (D / n) + (D % n != 0).toNat) * 2 ^ (a + under k.format))) (sg_natAbs _ _) (sg_sign _ _)
    refine hnear.le ?_
    rw [sg_natAbs]
    have hDe : D = m * 2 ^ more := Nat.shiftLeft_eq _ _
    have hmag : (2 * (D / n) + (D % n != 0).toNat) * n ≤ 4 * D := by
      have hdm := Nat.div_add_mod D n
      have hc : (D % n != 0).toNat ≤ 1 := Bool.toNat_le _
      by_cases hm : m = 0
      · have hD0 : D = 0 := by rw [hDe, hm, Nat.zero_mul]
        rw [hD0]; simp
      · have hnD : n ≤ D := by
          have h1 : n < 2 ^ (n.log2 + 1) := Nat.lt_log2_self
          have h2 : 2 ^ m.log2 ≤ m := Nat.log2_self_le hm
          have h3 : 2 ^ m.log2 * 2 ^ more ≤ m * 2 ^ more := Nat.mul_le_mul_right _ h2
          rw [← Nat.pow_add] at h3
          have h4 : 2 ^ (n.log2 + 1) ≤ 2 ^ (m.log2 + more) := Nat.pow_le_pow_right (by omega) (by show n.log2 + 1 ≤ m.log2 + (k.format.fractionBits + 2 + n.log2 - m.log2); omega)
          rw [hDe]; omega
        have h5 : (2 * (D / n) + (D % n != 0).toNat) * n = 2 * (n * (D / n)) + (D % n != 0).toNat * n := by
          rw [Nat.add_mul, Nat.mul_assoc, Nat.mul_comm (D / n) n]
        have h6 : (D % n != 0).toNat * n ≤ 1 * n := Nat.mul_le_mul_right _ hc
        omega
    have hnpos : 0 < n := by omega
    refine mul_le_cancel hnpos ?_
    have h1 : (2 * (D / n) + (D % n != 0).toNat) * 2 ^ (a + under k.format) * n ≤ 4 * (m * 2 ^ more) * 2 ^ (a + under k.format) := by
      rw [Nat.mul_right_comm, ← hDe]; exact Nat.mul_le_mul_right _ hmag
    have h2 : 4 * (m * 2 ^ more) * 2 ^ (a + under k.format) = 2 * (2 * (m * 2 ^ a) * 2 ^ under k.format) * 2 ^ more := by
      rw [Nat.pow_add, show (4 : Nat) = 2 * 2 from rfl]; ac_rfl
    have h3 : 2 * (2 * (m * 2 ^ a) * 2 ^ under k.format) * 2 ^ more ≤ 2 * (mg k.format s * (n * 2 ^ b)) * 2 ^ more := by
      refine Nat.mul_le_mul_right _ (Nat.mul_le_mul_left _ ?_)
      rw [e1', e2']; exact hs
    have h4 : 2 * (mg k.format s * (n * 2 ^ b)) * 2 ^ more = mg k.format s * 2 ^ (b + more + 1) * n := by
      rw [Nat.pow_succ, Nat.pow_add]; ac_rfl
    omega

/-! ### The square root -/

theorem rootFrom_sq (n : Nat) : ∀ (todo root : Nat), root * root ≤ n → Datum.rootFrom n todo root * Datum.rootFrom n todo root ≤ n := by
  intro todo
  induction todo with
  | zero => intro root h; exact h
  | succ todo ih =>
    intro root h
    unfold Datum.rootFrom
    dsimp only
    split
    · rename_i h'; exact ih _ h'
    · exact ih _ h

/-- The root of a value. -/
def sqrtV (X : Option Nat) : Option Nat := X.bind double.sqrt

theorem sqrt_nn {x r : Nat} (h : double.sqrt x = some r) : val .f64 r = some r := by
  unfold Format.sqrt at h
  refine map_write_val .f64 (o := (double.read x).root (double.fractionBits + 2)) ?_ h
  intro d hd
  cases hr : double.read x <;> rw [hr] at hd <;> simp only [Datum.root] at hd
  · split at hd
    · cases hd; rfl
    · split at hd
      · cases hd
      · cases hd; rfl
  · split at hd
    · cases hd
    · cases hd; rfl
  · cases hd

theorem sqrt_nan {x : Nat} (h : val .f64 x = none) : double.sqrt x = none := by
  obtain ⟨s, t, hr⟩ := nan_of_val h
  have hr' : double.read x = .nan s t := hr
  unfold Format.sqrt
  rw [hr']; rfl

theorem run_sqrt {P : Program} (x : Nat) (w : World) : ∃ r n, (Extern.MathSqrt.sqrt #[.float .f64 x]).run P w = .ok (.float .f64 r) (w.drewN n) ∧ FR .f64 r (sqrtV (Fl.val .f64 x)) := by
  have hb : sqrtV (Fl.val .f64 x) = double.sqrt x := by
    rcases val_cases .f64 x with h | h
    · rw [h]; rfl
    · rw [h, sqrt_nan h]; rfl
  cases h : double.sqrt x with
  | some r =>
    refine ⟨r, 0, ?_, double.sqrt_lt h, ?_⟩
    · have h' : FloatKind.f64.format.sqrt x = some r := h
      have e : Extern.MathSqrt.sqrt #[.float .f64 x] = (match FloatKind.f64.format.sqrt x with | some r => pure (.float .f64 r) | none => do pure (.float .f64 (← choose (.nanBits .f64 x x)))) := rfl
      rw [e, h']; rfl
    · rw [hb, h]; exact sqrt_nn h
  | none =>
    have hn := nan_cut .f64 (.nanBits .f64 x x) (w.tape w.drawn (.nanBits .f64 x x)) (.inl ⟨x, x, rfl⟩)
    refine ⟨_, 1, ?_, hn.1, by rw [hb, h]; exact hn.2⟩
    have h' : FloatKind.f64.format.sqrt x = none := h
    have e : Extern.MathSqrt.sqrt #[.float .f64 x] = (match FloatKind.f64.format.sqrt x with | some r => pure (.float .f64 r) | none => do pure (.float .f64 (← choose (.nanBits .f64 x x)))) := rfl
    rw [e, h']
    simp [choose, Sem.run, Question.forced]; rfl

theorem pw1 (m u A : Nat) : 16 * (m * 2 ^ u) * (2 ^ A * 2 ^ A) = m * 2 ^ (4 + u + A + A) := by
  rw [Nat.pow_add, Nat.pow_add, Nat.pow_add, show (2 : Nat) ^ 4 = 16 from rfl]; ac_rfl

theorem pw2 (m a U B : Nat) : 4 * (m * 2 ^ a) * 2 ^ U * (2 ^ B * 2 ^ B) = m * 2 ^ (2 + a + U + B + B) := by
  rw [Nat.pow_add, Nat.pow_add, Nat.pow_add, Nat.pow_add, show (2 : Nat) ^ 2 = 4 from rfl]; ac_rfl

/-- A root: at most s where four times what is under it is at most the square of s's magnitude. -/
theorem root_le (U : Nat) (hL : double.leastPlace = -(U : Int)) {x : Nat} (hx : rung double x < double.infRung) {r : Nat} (hr : double.sqrt x = some r) :
    ∀ s, 4 * mg double (rung double x) * 2 ^ U ≤ mg double s * mg double s → rung double r ≤ s := by
  intro s hs
  obtain ⟨m, a, e1, e1'⟩ := read_fin double hx
  unfold Format.sqrt at hr
  rw [e1] at hr
  simp only [Datum.root] at hr
  by_cases hm : m = 0
  · rw [if_pos hm] at hr
    subst hm
    have : r = double.word (sgn double x) 0 := by
      have := Option.some.inj hr
      rw [← this]
      show double.nearest _ 0 _ = _
      unfold Format.nearest; rw [if_pos rfl]
    rw [this, rung_word double _ (Nat.zero_le _)]
    exact Nat.zero_le _
  · rw [if_neg hm] at hr
    by_cases hsn : sgn double x = true
    · rw [if_pos hsn] at hr; cases hr
    · rw [if_neg hsn] at hr
      let more0 := 2 * (double.fractionBits + 2) - m.log2
      let i : Int := double.leastPlace + a
      let more := more0 + ((i - more0) % 2).toNat
      let n := m <<< more
      let whole := Datum.rootFrom n (n.log2 / 2 + 1) 0
      have hr' : double.nearest false (2 * whole + (whole * whole != n).toNat) ((i - more) / 2 - 1) = r := Option.some.inj hr
      obtain ⟨h, hh⟩ : ∃ h : Int, i - more = 2 * h := ⟨(i - more) / 2, by
        have e : ((more : Nat) : Int) = (more0 : Int) + (i - more0) % 2 := by
          show (((more0 + ((i - more0) % 2).toNat : Nat)) : Int) = _
          omega
        rw [e]; omega⟩
      have hp : (i - more) / 2 - 1 = h - 1 := by rw [hh]; omega
      rw [hp] at hr'
      have hsq : whole * whole ≤ n := rootFrom_sq n _ 0 (Nat.zero_le _)
      have hne : n = m * 2 ^ more := Nat.shiftLeft_eq _ _
      -- the whole root is at least one
      have hmag : (2 * whole + (whole * whole != n).toNat) * (2 * whole + (whole * whole != n).toNat) ≤ 16 * n := by
        have hc : (whole * whole != n).toNat ≤ 1 := Bool.toNat_le _
        have hn1 : 1 ≤ n := by rw [hne]; exact Nat.mul_pos (by omega) (Nat.two_pow_pos _)
        by_cases hw : whole = 0
        · rw [hw]
          have : (2 * 0 + (0 * 0 != n).toNat) ≤ 1 := by rw [Nat.mul_zero, Nat.zero_add]; exact Bool.toNat_le _
          have h2 := Nat.mul_le_mul this this
          omega
        · have h1 : 2 * whole + (whole * whole != n).toNat ≤ 4 * whole := by omega
          have h2 := Nat.mul_le_mul h1 h1
          have h3 : 4 * whole * (4 * whole) = 16 * (whole * whole) := by rw [show (16 : Nat) = 4 * 4 from rfl]; ac_rfl
          omega
      generalize (2 * whole + (whole * whole != n).toNat) = M at *
      obtain ⟨A, B, hAB⟩ : ∃ A B : Nat, h - 1 + B = double.leastPlace + A := ⟨(h - 1 + U).toNat, (-(h - 1 + U)).toNat, by rw [hL]; omega⟩
      have hnear := near_nearest double false M (h - 1) A B hAB (sg false (M * 2 ^ A)) (sg_natAbs _ _) (sg_sign _ _)
      rw [hr'] at hnear
      refine hnear.le ?_
      rw [sg_natAbs]
      refine Nat.mul_self_le_mul_self_iff.1 ?_
      have k1 : M * 2 ^ A * (M * 2 ^ A) ≤ 16 * (m * 2 ^ more) * (2 ^ A * 2 ^ A) := by
        have : M * 2 ^ A * (M * 2 ^ A) = M * M * (2 ^ A * 2 ^ A) := by ac_rfl
        rw [this, ← hne]; exact Nat.mul_le_mul_right _ hmag
      have k2 : 16 * (m * 2 ^ more) * (2 ^ A * 2 ^ A) = 4 * (m * 2 ^ a) * 2 ^ U * (2 ^ B * 2 ^ B) := by
        rw [pw1, pw2]
        congr 2
        have hi : i = double.leastPlace + a := rfl
        rw [hL] at hi hAB
        omega
      have k3 : 4 * (m * 2 ^ a) * 2 ^ U * (2 ^ B * 2 ^ B) ≤ mg double s * mg double s * (2 ^ B * 2 ^ B) := by
        rw [e1']; exact Nat.mul_le_mul_right _ hs
      have k4 : mg double s * mg double s * (2 ^ B * 2 ^ B) = mg double s * 2 ^ B * (mg double s * 2 ^ B) := by ac_rfl
      omega

end Go.Proofs.Ytepilofcionekaa.Fl
namespace Go.Proofs.Ytepilofcionekaa.Fl
open Ieee
set_option linter.unusedVariables false

theorem cut_zero (s : Bool) (n d : Nat) : Toward.zero.cut s n d = n / 2 ^ d := by
  unfold Toward.cut
  dsimp only
  by_cases h : d ≤ n.log2 + 2
  · rw [gap_eq n d h]; rfl
  · rw [Nat.min_eq_right (by omega), Nat.shiftLeft_eq, Nat.one_mul]
    have hlt : n < 2 ^ (n.log2 + 1) := Nat.lt_log2_self
    have h1 : 2 ^ (n.log2 + 1) ≤ 2 ^ (n.log2 + 2) := Nat.pow_le_pow_right (by omega) (by omega)
    have h2 : 2 ^ (n.log2 + 1) ≤ 2 ^ d := Nat.pow_le_pow_right (by omega) (by omega)
    rw [Nat.div_eq_of_lt (by omega), Nat.div_eq_of_lt (by omega)]; rfl

/-- A finite float64's whole part: n whole units below its magnitude. -/
theorem toInt_fin (U : Nat) (hL : double.leastPlace = -(U : Int)) {b : Nat} (h : rung double b < double.infRung) : ∃ n : Nat, (double.read b).toInt .zero = some (sg (sgn double b) n) ∧ n * 2 ^ U ≤ mg double (rung double b) ∧ mg double (rung double b) < (n + 1) * 2 ^ U := by
  obtain ⟨m, j, hr, hm⟩ := read_fin double h
  rw [hr]
  simp only [Datum.toInt, Datum.integral]
  rw [cut_zero, signed_sg, Nat.pow_zero, Nat.mul_one, Nat.shiftLeft_eq]
  refine ⟨_, rfl, ?_, ?_⟩
  all_goals rw [← hm]
  all_goals rw [hL]
  all_goals
    by_cases hj : j ≤ U
    · rw [show (-(U : Int) + (j : Int)).toNat = 0 by omega, show (-(-(U : Int) + (j : Int))).toNat = U - j by omega, Nat.pow_zero, Nat.mul_one]
      have e : 2 ^ U = 2 ^ (U - j) * 2 ^ j := by rw [← Nat.pow_add]; congr 1; omega
      rw [e, ← Nat.mul_assoc]
      have hp : 0 < 2 ^ (U - j) := Nat.two_pow_pos _
      have hdm := Nat.div_add_mod m (2 ^ (U - j))
      have hlt := Nat.mod_lt m hp
      first
        | (refine Nat.mul_le_mul_right _ ?_; rw [Nat.mul_comm]; omega)
        | (refine Nat.mul_lt_mul_of_pos_right ?_ (Nat.two_pow_pos _); rw [Nat.add_mul, Nat.one_mul, Nat.mul_comm]; omega)
    · rw [show (-(U : Int) + (j : Int)).toNat = j - U by omega, show (-(-(U : Int) + (j : Int))).toNat = 0 by omega, Nat.pow_zero, Nat.div_one]
      have e : 2 ^ j = 2 ^ (j - U) * 2 ^ U := by rw [← Nat.pow_add]; congr 1; omega
      rw [e, ← Nat.mul_assoc]
      first
        | exact Nat.le_refl _
        | exact Nat.mul_lt_mul_of_pos_right (by omega) (Nat.two_pow_pos _)

/-- A whole number below 2^53 as a float64 is exact. -/
theorem ofInt_spec (U : Nat) (hL : double.leastPlace = -(U : Int)) (s : Bool) (n : Nat) (hn : n < 2 ^ 53) : rung double (floatOfInt .f64 (sg s n)) < double.infRung ∧ iv double (floatOfInt .f64 (sg s n)) = sg s n * ((2 ^ U : Nat) : Int) := by
  have hnear : Near double (floatOfInt .f64 (sg s n)) (sg s (n * 2 ^ U)) 0 := by
    show Near double (double.nearest (decide (sg s n < 0)) (sg s n).natAbs 0) _ 0
    refine near_nearest double _ _ 0 U 0 (by rw [hL]; omega) _ ?_ ?_
    · rw [sg_natAbs, sg_natAbs]
    · intro h
      rw [decide_eq_decide, sg_mul]
      have hp : (0 : Int) < ((2 ^ U : Nat) : Int) := by exact_mod_cast Nat.two_pow_pos _
      constructor
      · intro h'
        have := Int.mul_neg_of_neg_of_pos h' hp
        omega
      · intro h'
        refine Int.not_le.1 fun h2 => ?_
        have := Int.mul_nonneg h2 (Int.le_of_lt hp)
        omega
  obtain ⟨t, ht⟩ := mg_surj double n U hn
  have htlt : t < double.infRung := by
    rw [← mg_lt_iff double, ht]
    have : n * 2 ^ U < 2 ^ 53 * 2 ^ U := Nat.mul_lt_mul_of_pos_right hn (Nat.two_pow_pos _)
    have hU : U = 1074 := by have : double.leastPlace = -1074 := by decide
                             omega
    subst hU
    have h2 : 2 ^ 53 * 2 ^ 1074 < mg double double.infRung := by decide +kernel
    omega
  have hrung : rung double (floatOfInt .f64 (sg s n)) = t := hnear.eq (by omega) (by rw [ht, sg_natAbs]; simp)
  refine ⟨by rw [hrung]; exact htlt, ?_⟩
  unfold iv
  rw [hrung, ht, ← sg_mul]
  by_cases hv : sg s (n * 2 ^ U) = 0
  · have h0 : n * 2 ^ U = 0 := by have := congrArg Int.natAbs hv; rwa [sg_natAbs] at this
    rw [h0]; unfold sg; simp
  · rw [hnear.sign hv, ← sg_sign _ _ hv]

/-- x less its whole part is at most one. -/
theorem frac_le (U : Nat) (hL : double.leastPlace = -(U : Int)) {b : Nat} (h : rung double b < double.infRung) (hb : mg double (rung double b) < 2 ^ 52 * 2 ^ U) (one : Nat) (hone : mg double one = 2 ^ U) :
    ∃ n : Int, floatToIntVal .f64 b .i64 = some n ∧ ∃ r, bin .sub .f64 (some b) (some (floatOfInt .f64 n)) = some r ∧ rung double r ≤ one := by
  obtain ⟨n, hn, h1, h2⟩ := toInt_fin U hL h
  have hnlt : n < 2 ^ 52 := by
    have : n * 2 ^ U < 2 ^ 52 * 2 ^ U := by omega
    exact Nat.lt_of_mul_lt_mul_right this
  refine ⟨sg (sgn double b) n, ?_, ?_⟩
  · unfold floatToIntVal
    have hn' : (FloatKind.f64.decode b).toInt .zero = some (sg (sgn double b) n) := hn
    rw [hn']
    dsimp only
    have : IntKind.i64.min ≤ sg (sgn double b) n ∧ sg (sgn double b) n ≤ IntKind.i64.max := by
      have hmin : IntKind.i64.min = -9223372036854775808 := by decide
      have hmax : IntKind.i64.max = 9223372036854775807 := by decide
      rw [hmin, hmax]; unfold sg; cases sgn double b <;> simp <;> omega
    rw [if_pos this]
  · obtain ⟨hf, hv⟩ := ofInt_spec U hL (sgn double b) n (by omega)
    obtain ⟨r, hr, hnear⟩ := near_sub .f64 (x := b) (y := floatOfInt .f64 (sg (sgn double b) n)) h hf
    refine ⟨r, hr, hnear.le (s := one) ?_⟩
    have hv' : iv FloatKind.f64.format (floatOfInt .f64 (sg (sgn double b) n)) = sg (sgn double b) n * ((2 ^ U : Nat) : Int) := hv
    rw [hv', ← sg_mul]
    show (iv double b - sg (sgn double b) (n * 2 ^ U)).natAbs ≤ mg double one * 2 ^ 0
    rw [hone, Nat.pow_zero, Nat.mul_one]
    unfold iv sg
    rw [Nat.add_mul, Nat.one_mul] at h2
    generalize n * 2 ^ U = Q at *
    generalize 2 ^ U = V at *
    cases sgn double b <;> simp <;> omega

/-- A value is a finite number of magnitude at most R's. -/
def Bd (X : Option Nat) (R : Nat) : Prop := ∃ b, X = some b ∧ rung double b ≤ R

theorem Bd.mono {X : Option Nat} {R S : Nat} (h : Bd X R) (hs : R ≤ S) : Bd X S := let ⟨b, e, l⟩ := h; ⟨b, e, Nat.le_trans l hs⟩

theorem Bd.const (c : Nat) : Bd (some c) (rung double c) := ⟨c, rfl, Nat.le_refl _⟩

theorem iv_abs (f : Format) (b : Nat) : (iv f b).natAbs = mg f (rung f b) := sg_natAbs _ _

theorem Bd.add {X Y : Option Nat} {R S : Nat} (hx : Bd X R) (hy : Bd Y S) (T : Nat) (hR : R < double.infRung) (hS : S < double.infRung) (hT : mg double R + mg double S ≤ mg double T) : Bd (bin .add .f64 X Y) T := by
  obtain ⟨x, rfl, lx⟩ := hx
  obtain ⟨y, rfl, ly⟩ := hy
  obtain ⟨r, hr, hn⟩ := near_add .f64 (x := x) (y := y) (by show rung double x < double.infRung; omega) (by show rung double y < double.infRung; omega)
  refine ⟨r, hr, hn.le (s := T) ?_⟩
  have h1 := (mg_le_iff double).2 lx
  have h2 := (mg_le_iff double).2 ly
  have e1 := iv_abs double x
  have e2 := iv_abs double y
  show (iv double x + iv double y).natAbs ≤ mg double T * 2 ^ 0
  rw [Nat.pow_zero, Nat.mul_one]
  omega

theorem Bd.sub {X Y : Option Nat} {R S : Nat} (hx : Bd X R) (hy : Bd Y S) (T : Nat) (hR : R < double.infRung) (hS : S < double.infRung) (hT : mg double R + mg double S ≤ mg double T) : Bd (bin .sub .f64 X Y) T := by
  obtain ⟨x, rfl, lx⟩ := hx
  obtain ⟨y, rfl, ly⟩ := hy
  obtain ⟨r, hr, hn⟩ := near_sub .f64 (x := x) (y := y) (by show rung double x < double.infRung; omega) (by show rung double y < double.infRung; omega)
  refine ⟨r, hr, hn.le (s := T) ?_⟩
  have h1 := (mg_le_iff double).2 lx
  have h2 := (mg_le_iff double).2 ly
  have e1 := iv_abs double x
  have e2 := iv_abs double y
  show (iv double x - iv double y).natAbs ≤ mg double T * 2 ^ 0
  rw [Nat.pow_zero, Nat.mul_one]
  omega

theorem Bd.mul {X Y : Option Nat} {R S : Nat} (hx : Bd X R) (hy : Bd Y S) (T : Nat) (hR : R < double.infRung) (hS : S < double.infRung) (hT : mg double R * mg double S ≤ mg double T * 2 ^ under double) : Bd (bin .mul .f64 X Y) T := by
  obtain ⟨x, rfl, lx⟩ := hx
  obtain ⟨y, rfl, ly⟩ := hy
  obtain ⟨r, hr, hn⟩ := near_mul .f64 (x := x) (y := y) (by show rung double x < double.infRung; omega) (by show rung double y < double.infRung; omega)
  refine ⟨r, hr, hn.le (s := T) ?_⟩
  have h1 := (mg_le_iff double).2 lx
  have h2 := (mg_le_iff double).2 ly
  show (iv double x * iv double y).natAbs ≤ mg double T * 2 ^ under double
  rw [Int.natAbs_mul, iv_abs, iv_abs]
  exact Nat.le_trans (Nat.mul_le_mul h1 h2) hT

/-- A quotient by a constant. -/
theorem Bd.quo {X : Option Nat} {R : Nat} (hx : Bd X R) (c : Nat) (T : Nat) (hR : R < double.infRung) (hc : rung double c < double.infRung) (hc0 : 0 < rung double c) (hT : 2 * mg double R * 2 ^ under double ≤ mg double T * mg double (rung double c)) : Bd (bin .quo .f64 X (some c)) T := by
  obtain ⟨x, rfl, lx⟩ := hx
  obtain ⟨r, hr, hq⟩ := quo_le .f64 (x := x) (y := c) (by show rung double x < double.infRung; omega) hc hc0
  refine ⟨r, hr, hq T ?_⟩
  have h1 := (mg_le_iff double).2 lx
  exact Nat.le_trans (Nat.mul_le_mul_right _ (Nat.mul_le_mul_left _ h1)) hT

/-- The negated value. -/
def negV64 (X : Option Nat) : Option Nat := X.map (· ^^^ 9223372036854775808)

theorem neg_bits64 (x : Nat) (hx : x < 18446744073709551616) : (x ^^^ 9223372036854775808) < 18446744073709551616 ∧ (x ^^^ 9223372036854775808) % 9223372036854775808 = x % 9223372036854775808 := by
  have h1 : x ^^^ 9223372036854775808 < 2 ^ 64 := Nat.xor_lt_two_pow (by omega) (by decide)
  refine ⟨h1, ?_⟩
  show (x ^^^ 2 ^ 63) % 2 ^ 63 = x % 2 ^ 63
  rw [Nat.xor_mod_two_pow]
  simp

theorem Bd.neg {X : Option Nat} {R : Nat} (hx : Bd X R) (hlt : ∀ b, X = some b → b < 18446744073709551616) : Bd (negV64 X) R := by
  obtain ⟨x, rfl, lx⟩ := hx
  refine ⟨_, rfl, ?_⟩
  have := (neg_bits64 x (hlt x rfl)).2
  show (x ^^^ 9223372036854775808) % 9223372036854775808 ≤ R
  rw [this]; exact lx

theorem Bd.narOk {X : Option Nat} {R : Nat} (hx : Bd X R) (h : mg double R ≤ mg single (single.infRung - 1) * 2 ^ 925) : NarOk X := by
  obtain ⟨x, rfl, lx⟩ := hx
  exact NarOk.of_le (Nat.le_trans ((mg_le_iff double).2 lx) h)

end Go.Proofs.Ytepilofcionekaa.Fl
namespace Go.Proofs.Ytepilofcionekaa.Fl
open Ieee
set_option linter.unusedVariables false

def ONE : Nat := 4607182418800017408
def TWO : Nat := 4611686018427387904
def HALF : Nat := 4602678819172646912
def QUARTER : Nat := 4598175219545276416
def TURN : Nat := 4618760256179416344
/-- 2k(2k+1) for k from 8 down to 1. -/
def sinCs : List Nat := [4643492690795692032, 4641592734702895104, 4639692778610098176, 4637440978796412928, 4634766966517661696, 4631107791820423168, 4626322717216342016, 4618441417868443648]
/-- k from 8 down to 0. -/
def sinKs : List Nat := [4620693217682128896, 4619567317775286272, 4618441417868443648, 4617315517961601024, 4616189618054758400, 4613937818241073152, 4611686018427387904, 4607182418800017408, 0]
def sinC (i : Nat) : Nat := sinCs.getD i 0
def sinK (i : Nat) : Nat := sinKs.getD i 0

/-- The series' value behind i rounds. -/
def sinP (u : Option Nat) : Nat → Option Nat
  | 0 => some ONE
  | i + 1 => bin .sub .f64 (some ONE) (bin .quo .f64 (bin .mul .f64 u (sinP u i)) (some (sinC i)))

def geqV (X Y : Option Nat) : Bool := cmp .f64 X Y == some .gt || cmp .f64 X Y == some .eq
def gtV (X Y : Option Nat) : Bool := cmp .f64 X Y == some .gt
def ltV (X Y : Option Nat) : Bool := cmp .f64 X Y == some .lt

theorem vZERO : val .f64 0 = some 0 := (nn_iff .f64 0).2 (by decide)
theorem vONE : val .f64 4607182418800017408 = some ONE := (nn_iff .f64 4607182418800017408).2 (by decide)
theorem vTWO : val .f64 4611686018427387904 = some TWO := (nn_iff .f64 4611686018427387904).2 (by decide)
theorem vHALF : val .f64 4602678819172646912 = some HALF := (nn_iff .f64 4602678819172646912).2 (by decide)
theorem vQUARTER : val .f64 4598175219545276416 = some QUARTER := (nn_iff .f64 4598175219545276416).2 (by decide)
theorem vTURN : val .f64 4618760256179416344 = some TURN := (nn_iff .f64 4618760256179416344).2 (by decide)

/-- x without its whole part n, not below zero. -/
def fracV (X : Option Nat) (n : Int) : Option Nat :=
  let f := bin .sub .f64 X (some (floatOfInt .f64 n))
  if ltV f (some 0) then bin .add .f64 f (some ONE) else f

def fold1 (f : Option Nat) : Option Nat := if geqV f (some HALF) then bin .sub .f64 f (some HALF) else f
def fold2 (f : Option Nat) : Option Nat := if gtV f (some QUARTER) then bin .sub .f64 (some HALF) f else f
def sinZ (f : Option Nat) : Option Nat := bin .mul .f64 (fold2 (fold1 f)) (some TURN)
def sinQ (f : Option Nat) : Option Nat := bin .mul .f64 (sinZ f) (sinP (bin .mul .f64 (sinZ f) (sinZ f)) 8)
/-- The sine of f turns, f from 0 to 1. -/
def sineV (f : Option Nat) : Option Nat := if geqV f (some HALF) then negV64 (sinQ f) else sinQ f

/-! ### It stays small -/

def sinTs : List Nat := [4607182418800017408, 4629700416936869888, 4656722014701092864, 4683743612465315840, 4715268809856909312, 4746794007248502784, 4782822804267466752, 4823355200913801216, 4872894796814876672]
def sinT (i : Nat) : Nat := sinTs.getD i 0

theorem sinT_step : ∀ i, i < 8 → ∃ a b, mg double 4661225614328463360 * mg double (sinT i) ≤ mg double a * 2 ^ 1074 ∧ 2 * mg double a * 2 ^ 1074 ≤ mg double b * mg double (sinC i) ∧ mg double ONE + mg double b ≤ mg double (sinT (i + 1)) ∧ a < double.infRung ∧ b < double.infRung ∧ sinT i < double.infRung ∧ sinC i < double.infRung ∧ 0 < sinC i ∧ rung double (sinC i) = sinC i := by
  intro i hi
  match i, hi with
  | 0, _ => exact ⟨4661225614328463360, 4629418941960159232, by decide +kernel⟩
  | 1, _ => exact ⟨4683743612465315840, 4656717616654581760, by decide +kernel⟩
  | 2, _ => exact ⟨4710765210229538816, 4683743543745839104, by decide +kernel⟩
  | 3, _ => exact ⟨4737786807993761792, 4715268809320038400, by decide +kernel⟩
  | 4, _ => exact ⟨4769312005385355264, 4746794007244308480, by decide +kernel⟩
  | 5, _ => exact ⟨4800837202776948736, 4782822804267450368, by decide +kernel⟩
  | 6, _ => exact ⟨4836865999795912704, 4823355200913801184, by decide +kernel⟩
  | 7, _ => exact ⟨4877398396442247168, 4872894796814876671, by decide +kernel⟩

theorem sinP_bd {u : Option Nat} (hu : Bd u 4661225614328463360) : ∀ i, i ≤ 8 → Bd (sinP u i) (sinT i) := by
  intro i
  induction i with
  | zero => intro _; exact Bd.const ONE
  | succ i ih =>
    intro hi
    obtain ⟨a, b, h1, h2, h3, ha, hb, hT, hc, hc0, hcr⟩ := sinT_step i (by omega)
    have hp := ih (by omega)
    have e1 := Bd.mul hu hp a (by decide) hT (by rw [under_double]; exact h1)
    have e2 := Bd.quo e1 (sinC i) b ha (by rw [hcr]; exact hc) (by rw [hcr]; exact hc0) (by rw [hcr, under_double]; exact h2)
    exact Bd.sub (Bd.const ONE) e2 (sinT (i + 1)) (by decide) hb (by rw [show rung double ONE = ONE by decide]; exact h3)

theorem frac_bd {X : Option Nat} {n : Int} (h : Bd (bin .sub .f64 X (some (floatOfInt .f64 n))) ONE) : Bd (fracV X n) TWO := by
  unfold fracV
  dsimp only
  split
  · exact Bd.add h (Bd.const ONE) TWO (by decide) (by decide) (by decide +kernel)
  · exact h.mono (by decide)

theorem sinZ_bd {f : Option Nat} (h : Bd f TWO) : Bd (sinZ f) 4634204016564240384 := by
  unfold sinZ
  have h1 : Bd (fold1 f) 4616189618054758400 := by
    unfold fold1
    split
    · exact Bd.sub h (Bd.const HALF) _ (by decide) (by decide) (by decide +kernel)
    · exact h.mono (by decide)
  have h2 : Bd (fold2 (fold1 f)) 4620693217682128896 := by
    unfold fold2
    split
    · exact Bd.sub (Bd.const HALF) h1 _ (by decide) (by decide) (by decide +kernel)
    · exact h1.mono (by decide)
  exact Bd.mul h2 (Bd.const TURN) _ (by decide) (by decide) (by rw [under_double]; decide +kernel)

theorem sinQ_bd {f : Option Nat} (h : Bd f TWO) : Bd (sinQ f) 4899916394579099648 := by
  unfold sinQ
  have hz := sinZ_bd h
  have hu : Bd (bin .mul .f64 (sinZ f) (sinZ f)) 4661225614328463360 := Bd.mul hz hz _ (by decide) (by decide) (by rw [under_double]; decide +kernel)
  have hp := sinP_bd hu 8 (Nat.le_refl _)
  exact Bd.mul hz hp _ (by decide) (by decide) (by rw [under_double]; decide +kernel)

theorem bin_lt {op : BinOp} {X Y : Option Nat} {b : Nat} (h : bin op .f64 X Y = some b) : b < 18446744073709551616 := by
  cases X with
  | none => cases h
  | some x =>
    cases Y with
    | none => cases h
    | some y => exact floatBits_lt (k := .f64) h

theorem sineV_bd {f : Option Nat} (h : Bd f TWO) : Bd (sineV f) 4899916394579099648 := by
  unfold sineV
  split
  · exact (sinQ_bd h).neg (fun b hb => bin_lt hb)
  · exact sinQ_bd h

theorem sineV_ok {f : Option Nat} (h : Bd f TWO) : NarOk (sineV f) := (sineV_bd h).narOk (by decide +kernel)

/-- The constants of the round, as the program reckons them. -/
theorem sin_consts : ∀ i, i < 8 → bin .mul .f64 (bin .mul .f64 (some TWO) (some (sinK i))) (bin .add .f64 (bin .mul .f64 (some TWO) (some (sinK i))) (some ONE)) = some (sinC i) ∧
    bin .sub .f64 (some (sinK i)) (some ONE) = some (sinK (i + 1)) ∧ floatOfInt .f64 (2 * (8 - (i : Int)) * (2 * (8 - (i : Int)) + 1)) = sinC i := by
  intro i hi
  match i, hi with
  | 0, _ => decide +kernel
  | 1, _ => decide +kernel
  | 2, _ => decide +kernel
  | 3, _ => decide +kernel
  | 4, _ => decide +kernel
  | 5, _ => decide +kernel
  | 6, _ => decide +kernel
  | 7, _ => decide +kernel

theorem sin_test : ∀ i, i ≤ 8 → (FloatKind.f64.format.order (sinK i) ONE == some .gt || FloatKind.f64.format.order (sinK i) ONE == some .eq) = decide (i < 8) := by
  intro i hi
  match i, hi with
  | 0, _ => decide +kernel
  | 1, _ => decide +kernel
  | 2, _ => decide +kernel
  | 3, _ => decide +kernel
  | 4, _ => decide +kernel
  | 5, _ => decide +kernel
  | 6, _ => decide +kernel
  | 7, _ => decide +kernel
  | 8, _ => decide +kernel

theorem vSinK (i : Nat) (hi : i ≤ 8) : val .f64 (sinK i) = some (sinK i) := by
  match i, hi with
  | 0, _ => exact (nn_iff .f64 _).2 (by decide)
  | 1, _ => exact (nn_iff .f64 _).2 (by decide)
  | 2, _ => exact (nn_iff .f64 _).2 (by decide)
  | 3, _ => exact (nn_iff .f64 _).2 (by decide)
  | 4, _ => exact (nn_iff .f64 _).2 (by decide)
  | 5, _ => exact (nn_iff .f64 _).2 (by decide)
  | 6, _ => exact (nn_iff .f64 _).2 (by decide)
  | 7, _ => exact (nn_iff .f64 _).2 (by decide)
  | 8, _ => exact (nn_iff .f64 _).2 (by decide)

theorem sinK_lt (i : Nat) (hi : i < 8) : sinK (i + 1) < sinK i := by
  match i, hi with
  | 0, _ => decide
  | 1, _ => decide
  | 2, _ => decide
  | 3, _ => decide
  | 4, _ => decide
  | 5, _ => decide
  | 6, _ => decide
  | 7, _ => decide

end Go.Proofs.Ytepilofcionekaa.Fl
namespace Go.Proofs.Ytepilofcionekaa
open Fl Ieee Go.RowKit
set_option linter.unusedVariables false

theorem val_ofInt (n : Int) : val .f64 (floatOfInt .f64 n) = some (floatOfInt .f64 n) := write_val .f64 (d := .number (decide (n < 0)) n.natAbs 0) rfl

theorem FR_neg64 {x : Nat} {X : Option Nat} (h : FR .f64 x X) : FR .f64 (x ^^^ 9223372036854775808) (negV64 X) := by
  have hx : x < 18446744073709551616 := h.lt
  have hb := neg_bits64 x hx
  refine ⟨hb.1, ?_⟩
  rw [← h.val, val64, val64, hb.2]
  split <;> rfl

theorem impl_fraction (x : Nat) (n : Int) (hn : floatToIntVal .f64 x .i64 = some n) (w : World) :
    Calls Try.prog 117 #[.float .f64 x] w fun e w' => ∃ r, e = .returned (.float .f64 r) ∧ FR .f64 r (fracV (val .f64 x) n) ∧ ∃ n, w' = w.drewN n := by
  have hc : ∀ w, (convert 39 2 (.float .f64 x)).run Try.prog w = .ok (.int .i64 n) w := fun w => run_convert_float_int w 39 2 .f64 .i64 x n (by kernel_rfl) (by kernel_rfl) hn
  clear hn
  go_enter Try.func117, Try.ntmps117
  go_wp2_with (first | (refine wpList_fbin (o := ⟨some 8, _, _, _, _, _⟩) rfl _ _ _ _ _ rfl (by decide) _ _ _ rfl rfl ?_; intro f nf hf; rw [val_ofInt] at hf) | (refine wpList_fbin (o := ⟨some 12, _, _, _, _, _⟩) rfl _ _ _ _ _ rfl (by decide) _ _ _ rfl rfl ?_; intro g ng hg; rw [hf.val, vONE] at hg))
  · have ht : (FloatKind.f64.format.order f 0 == some Ordering.lt) = true := by assumption
    rw [order_cmp, hf.val, vZERO] at ht
    go_ret
    refine ⟨g, rfl, ?_, _, rfl⟩
    unfold fracV
    dsimp only
    rw [if_pos (show ltV _ _ = true from ht)]; exact hg
  · have ht : (FloatKind.f64.format.order f 0 == some Ordering.lt) = false := by assumption
    rw [order_cmp, hf.val, vZERO] at ht
    go_ret
    refine ⟨f, rfl, ?_, _, rfl⟩
    unfold fracV
    dsimp only
    rw [if_neg (by unfold ltV; rw [ht]; decide)]; exact hf

theorem impl_sine_11 (x : Nat) (n : Int) (hn : floatToIntVal .f64 x .i64 = some n) (F : Option Nat) (hF : fracV (val .f64 x) n = F) (b1 : geqV F (some HALF) = true) (b2 : gtV (fold1 F) (some QUARTER) = true) (w : World) :
    Calls Try.prog 99 #[.float .f64 x] w fun e w' => ∃ r, e = .returned (.float .f64 r) ∧ FR .f64 r (sineV F) ∧ ∃ n, w' = w.drewN n := by
  have hF1 : fold1 F = (bin .sub .f64 F (some HALF)) := by unfold fold1; rw [b1]; rfl
  have hF2 : fold2 (fold1 F) = (bin .sub .f64 (some HALF) (bin .sub .f64 F (some HALF))) := by unfold fold2; rw [b2, hF1]; rfl
  have b2' := b2
  rw [hF1] at b2'
  have HF : Hid (fracV (val .f64 x) n = F) := hF
  have HB1 : Hid (geqV F (some HALF) = true) := b1
  have HB2 : Hid (gtV (bin .sub .f64 F (some HALF)) (some QUARTER) = true) := b2'
  have HF2 : Hid (fold2 (fold1 F) = (bin .sub .f64 (some HALF) (bin .sub .f64 F (some HALF)))) := hF2
  clear hF b1 b2 b2' hF1 hF2
  go_enter Try.func99, Try.ntmps99
  go_wp2_with (first | (go_at_call 117; refine (impl_fraction _ n hn _).mono ?_; rintro e w' ⟨f, rfl, hf, nf, rfl⟩; rw [HF.out] at hf; have t1 : (FloatKind.f64.format.order f 4602678819172646912 == some .gt || FloatKind.f64.format.order f 4602678819172646912 == some .eq) = true := (by rw [order_cmp, hf.val, vHALF]; exact HB1.out)) | ((refine wpList_fbin (o := ⟨some 15, _, _, _, _, _⟩) rfl _ _ _ _ _ rfl (by decide) _ _ _ rfl rfl ?_; intro g ng hg; rw [hf.val, vHALF] at hg); have t2 : (FloatKind.f64.format.order g 4598175219545276416 == some .gt) = true := (by rw [order_cmp, hg.val, vQUARTER]; exact HB2.out)) | (refine wpList_fbin (o := ⟨some 19, _, _, _, _, _⟩) rfl _ _ _ _ _ rfl (by decide) _ _ _ rfl rfl ?_; intro k nk hk; rw [hg.val, vHALF] at hk) | (refine wpList_fbin (o := ⟨some 21, _, _, _, _, _⟩) rfl _ _ _ _ _ rfl (by decide) _ _ _ rfl rfl ?_; intro z nz hz; rw [hk.val, vTURN, ← HF2.out] at hz) | (refine wpList_fbin (o := ⟨some 24, _, _, _, _, _⟩) rfl _ _ _ _ _ rfl (by decide) _ _ _ rfl rfl ?_; intro u nu hu; rw [hz.val] at hu) | fail)
  go_loopw [7, 8] (fun p k wr => ∃ i : Nat, i ≤ 8 ∧ ∃ pb : Nat, p = .float .f64 pb ∧ k = .float .f64 (sinK i) ∧ FR .f64 pb (sinP (bin .mul .f64 (sinZ F) (sinZ F)) i) ∧ ∃ n, wr = w.drewN n) (fun _ k _ => match k with | .float _ b => b | _ => 0)
  case atStart => exact ⟨0, by omega, _, rfl, rfl, ⟨by decide, vONE⟩, _, rfl⟩
  case round =>
    obtain ⟨i, hi, pb, rfl, rfl, hp, nw, rfl⟩ := hrel
    have ht := sin_test i hi
    by_cases hlt : i < 8
    · rw [decide_eq_true hlt] at ht
      have ht' : (FloatKind.f64.format.order (sinK i) 4607182418800017408 == some .gt || FloatKind.f64.format.order (sinK i) 4607182418800017408 == some .eq) = true := ht
      clear ht
      go_wp2_with (first | (refine wpList_fbin (o := ⟨some 31, _, _, _, _, _⟩) rfl _ _ _ _ _ rfl (by decide) _ _ _ rfl rfl ?_; intro m nm hm; rw [hu.val, hp.val] at hm) | (refine wpList_fbin (o := ⟨some 33, _, _, _, _, _⟩) rfl _ _ _ _ _ rfl (by decide) _ _ _ rfl rfl ?_; intro a na ha; rw [vTWO, vSinK i hi] at ha) | (refine wpList_fbin (o := ⟨some 35, _, _, _, _, _⟩) rfl _ _ _ _ _ rfl (by decide) _ _ _ rfl rfl ?_; intro b nb hb; rw [vTWO, vSinK i hi] at hb) | (refine wpList_fbin (o := ⟨some 36, _, _, _, _, _⟩) rfl _ _ _ _ _ rfl (by decide) _ _ _ rfl rfl ?_; intro c nc hc; rw [hb.val, vONE] at hc) | (refine wpList_fbin (o := ⟨some 37, _, _, _, _, _⟩) rfl _ _ _ _ _ rfl (by decide) _ _ _ rfl rfl ?_; intro d nd hd; rw [ha.val, hc.val, (sin_consts i hlt).1] at hd) | (refine wpList_fbin (o := ⟨some 38, _, _, _, _, _⟩) rfl _ _ _ _ _ rfl (by decide) _ _ _ rfl rfl ?_; intro q nq hq; rw [hm.val, hd.val] at hq) | (refine wpList_fbin (o := ⟨some 39, _, _, _, _, _⟩) rfl _ _ _ _ _ rfl (by decide) _ _ _ rfl rfl ?_; intro r nr hr; rw [vONE, hq.val] at hr) | (refine wpList_fbin (o := ⟨some 28, _, _, _, _, _⟩) rfl _ _ _ _ _ rfl (by decide) _ _ _ rfl rfl ?_; intro kk nkk hkk; rw [vSinK i hi, vONE, (sin_consts i hlt).2.1] at hkk) | fail)
      go_roundw
      case rel => exact ⟨i + 1, by omega, _, rfl, by rw [← val_some hkk.val], hr, _, rfl⟩
      case measure => have := sinK_lt i hlt; rw [val_some hkk.val] at this; simpa using this
    · rw [decide_eq_false hlt] at ht
      obtain rfl : i = 8 := by omega
      have ht' : (FloatKind.f64.format.order (sinK 8) 4607182418800017408 == some .gt || FloatKind.f64.format.order (sinK 8) 4607182418800017408 == some .eq) = false := ht
      clear ht
      go_wp2_with (first | (refine wpList_fbin (o := ⟨some 43, _, _, _, _, _⟩) rfl _ _ _ _ _ rfl (by decide) _ _ _ rfl rfl ?_; intro q nq hq; rw [hz.val, hp.val] at hq) | fail)
      go_ret
      refine ⟨_, rfl, ?_, _, rfl⟩
      unfold sineV
      rw [if_pos HB1.out]
      exact FR_neg64 hq

theorem impl_sine_10 (x : Nat) (n : Int) (hn : floatToIntVal .f64 x .i64 = some n) (F : Option Nat) (hF : fracV (val .f64 x) n = F) (b1 : geqV F (some HALF) = true) (b2 : gtV (fold1 F) (some QUARTER) = false) (w : World) :
    Calls Try.prog 99 #[.float .f64 x] w fun e w' => ∃ r, e = .returned (.float .f64 r) ∧ FR .f64 r (sineV F) ∧ ∃ n, w' = w.drewN n := by
  have hF1 : fold1 F = (bin .sub .f64 F (some HALF)) := by unfold fold1; rw [b1]; rfl
  have hF2 : fold2 (fold1 F) = (bin .sub .f64 F (some HALF)) := by unfold fold2; rw [b2, hF1]; rfl
  have b2' := b2
  rw [hF1] at b2'
  have HF : Hid (fracV (val .f64 x) n = F) := hF
  have HB1 : Hid (geqV F (some HALF) = true) := b1
  have HB2 : Hid (gtV (bin .sub .f64 F (some HALF)) (some QUARTER) = false) := b2'
  have HF2 : Hid (fold2 (fold1 F) = (bin .sub .f64 F (some HALF))) := hF2
  clear hF b1 b2 b2' hF1 hF2
  go_enter Try.func99, Try.ntmps99
  go_wp2_with (first | (go_at_call 117; refine (impl_fraction _ n hn _).mono ?_; rintro e w' ⟨f, rfl, hf, nf, rfl⟩; rw [HF.out] at hf; have t1 : (FloatKind.f64.format.order f 4602678819172646912 == some .gt || FloatKind.f64.format.order f 4602678819172646912 == some .eq) = true := (by rw [order_cmp, hf.val, vHALF]; exact HB1.out)) | ((refine wpList_fbin (o := ⟨some 15, _, _, _, _, _⟩) rfl _ _ _ _ _ rfl (by decide) _ _ _ rfl rfl ?_; intro g ng hg; rw [hf.val, vHALF] at hg); have t2 : (FloatKind.f64.format.order g 4598175219545276416 == some .gt) = false := (by rw [order_cmp, hg.val, vQUARTER]; exact HB2.out)) | (refine wpList_fbin (o := ⟨some 21, _, _, _, _, _⟩) rfl _ _ _ _ _ rfl (by decide) _ _ _ rfl rfl ?_; intro z nz hz; rw [hg.val, vTURN, ← HF2.out] at hz) | (refine wpList_fbin (o := ⟨some 24, _, _, _, _, _⟩) rfl _ _ _ _ _ rfl (by decide) _ _ _ rfl rfl ?_; intro u nu hu; rw [hz.val] at hu) | fail)
  go_loopw [7, 8] (fun p k wr => ∃ i : Nat, i ≤ 8 ∧ ∃ pb : Nat, p = .float .f64 pb ∧ k = .float .f64 (sinK i) ∧ FR .f64 pb (sinP (bin .mul .f64 (sinZ F) (sinZ F)) i) ∧ ∃ n, wr = w.drewN n) (fun _ k _ => match k with | .float _ b => b | _ => 0)
  case atStart => exact ⟨0, by omega, _, rfl, rfl, ⟨by decide, vONE⟩, _, rfl⟩
  case round =>
    obtain ⟨i, hi, pb, rfl, rfl, hp, nw, rfl⟩ := hrel
    have ht := sin_test i hi
    by_cases hlt : i < 8
    · rw [decide_eq_true hlt] at ht
      have ht' : (FloatKind.f64.format.order (sinK i) 4607182418800017408 == some .gt || FloatKind.f64.format.order (sinK i) 4607182418800017408 == some .eq) = true := ht
      clear ht
      go_wp2_with (first | (refine wpList_fbin (o := ⟨some 31, _, _, _, _, _⟩) rfl _ _ _ _ _ rfl (by decide) _ _ _ rfl rfl ?_; intro m nm hm; rw [hu.val, hp.val] at hm) | (refine wpList_fbin (o := ⟨some 33, _, _, _, _, _⟩) rfl _ _ _ _ _ rfl (by decide) _ _ _ rfl rfl ?_; intro a na ha; rw [vTWO, vSinK i hi] at ha) | (refine wpList_fbin (o := ⟨some 35, _, _, _, _, _⟩) rfl _ _ _ _ _ rfl (by decide) _ _ _ rfl rfl ?_; intro b nb hb; rw [vTWO, vSinK i hi] at hb) | (refine wpList_fbin (o := ⟨some 36, _, _, _, _, _⟩) rfl _ _ _ _ _ rfl (by decide) _ _ _ rfl rfl ?_; intro c nc hc; rw [hb.val, vONE] at hc) | (refine wpList_fbin (o := ⟨some 37, _, _, _, _, _⟩) rfl _ _ _ _ _ rfl (by decide) _ _ _ rfl rfl ?_; intro d nd hd; rw [ha.val, hc.val, (sin_consts i hlt).1] at hd) | (refine wpList_fbin (o := ⟨some 38, _, _, _, _, _⟩) rfl _ _ _ _ _ rfl (by decide) _ _ _ rfl rfl ?_; intro q nq hq; rw [hm.val, hd.val] at hq) | (refine wpList_fbin (o := ⟨some 39, _, _, _, _, _⟩) rfl _ _ _ _ _ rfl (by decide) _ _ _ rfl rfl ?_; intro r nr hr; rw [vONE, hq.val] at hr) | (refine wpList_fbin (o := ⟨some 28, _, _, _, _, _⟩) rfl _ _ _ _ _ rfl (by decide) _ _ _ rfl rfl ?_; intro kk nkk hkk; rw [vSinK i hi, vONE, (sin_consts i hlt).2.1] at hkk) | fail)
      go_roundw
      case rel => exact ⟨i + 1, by omega, _, rfl, by rw [← val_some hkk.val], hr, _, rfl⟩
      case measure => have := sinK_lt i hlt; rw [val_some hkk.val] at this; simpa using this
    · rw [decide_eq_false hlt] at ht
      obtain rfl : i = 8 := by omega
      have ht' : (FloatKind.f64.format.order (sinK 8) 4607182418800017408 == some .gt || FloatKind.f64.format.order (sinK 8) 4607182418800017408 == some .eq) = false := ht
      clear ht
      go_wp2_with (first | (refine wpList_fbin (o := ⟨some 43, _, _, _, _, _⟩) rfl _ _ _ _ _ rfl (by decide) _ _ _ rfl rfl ?_; intro q nq hq; rw [hz.val, hp.val] at hq) | fail)
      go_ret
      refine ⟨_, rfl, ?_, _, rfl⟩
      unfold sineV
      rw [if_pos HB1.out]
      exact FR_neg64 hq

theorem impl_sine_01 (x : Nat) (n : Int) (hn : floatToIntVal .f64 x .i64 = some n) (F : Option Nat) (hF : fracV (val .f64 x) n = F) (b1 : geqV F (some HALF) = false) (b2 : gtV (fold1 F) (some QUARTER) = true) (w : World) :
    Calls Try.prog 99 #[.float .f64 x] w fun e w' => ∃ r, e = .returned (.float .f64 r) ∧ FR .f64 r (sineV F) ∧ ∃ n, w' = w.drewN n := by
  have hF1 : fold1 F = F := by unfold fold1; rw [b1]; rfl
  have hF2 : fold2 (fold1 F) = (bin .sub .f64 (some HALF) F) := by unfold fold2; rw [b2, hF1]; rfl
  have b2' := b2
  rw [hF1] at b2'
  have HF : Hid (fracV (val .f64 x) n = F) := hF
  have HB1 : Hid (geqV F (some HALF) = false) := b1
  have HB2 : Hid (gtV F (some QUARTER) = true) := b2'
  have HF2 : Hid (fold2 (fold1 F) = (bin .sub .f64 (some HALF) F)) := hF2
  clear hF b1 b2 b2' hF1 hF2
  go_enter Try.func99, Try.ntmps99
  go_wp2_with (first | (go_at_call 117; refine (impl_fraction _ n hn _).mono ?_; rintro e w' ⟨f, rfl, hf, nf, rfl⟩; rw [HF.out] at hf; have t1 : (FloatKind.f64.format.order f 4602678819172646912 == some .gt || FloatKind.f64.format.order f 4602678819172646912 == some .eq) = false := (by rw [order_cmp, hf.val, vHALF]; exact HB1.out); have t2 : (FloatKind.f64.format.order f 4598175219545276416 == some .gt) = true := (by rw [order_cmp, hf.val, vQUARTER]; exact HB2.out)) | (refine wpList_fbin (o := ⟨some 19, _, _, _, _, _⟩) rfl _ _ _ _ _ rfl (by decide) _ _ _ rfl rfl ?_; intro k nk hk; rw [hf.val, vHALF] at hk) | (refine wpList_fbin (o := ⟨some 21, _, _, _, _, _⟩) rfl _ _ _ _ _ rfl (by decide) _ _ _ rfl rfl ?_; intro z nz hz; rw [hk.val, vTURN, ← HF2.out] at hz) | (refine wpList_fbin (o := ⟨some 24, _, _, _, _, _⟩) rfl _ _ _ _ _ rfl (by decide) _ _ _ rfl rfl ?_; intro u nu hu; rw [hz.val] at hu) | fail)
  go_loopw [7, 8] (fun p k wr => ∃ i : Nat, i ≤ 8 ∧ ∃ pb : Nat, p = .float .f64 pb ∧ k = .float .f64 (sinK i) ∧ FR .f64 pb (sinP (bin .mul .f64 (sinZ F) (sinZ F)) i) ∧ ∃ n, wr = w.drewN n) (fun _ k _ => match k with | .float _ b => b | _ => 0)
  case atStart => exact ⟨0, by omega, _, rfl, rfl, ⟨by decide, vONE⟩, _, rfl⟩
  case round =>
    obtain ⟨i, hi, pb, rfl, rfl, hp, nw, rfl⟩ := hrel
    have ht := sin_test i hi
    by_cases hlt : i < 8
    · rw [decide_eq_true hlt] at ht
      have ht' : (FloatKind.f64.format.order (sinK i) 4607182418800017408 == some .gt || FloatKind.f64.format.order (sinK i) 4607182418800017408 == some .eq) = true := ht
      clear ht
      go_wp2_with (first | (refine wpList_fbin (o := ⟨some 31, _, _, _, _, _⟩) rfl _ _ _ _ _ rfl (by decide) _ _ _ rfl rfl ?_; intro m nm hm; rw [hu.val, hp.val] at hm) | (refine wpList_fbin (o := ⟨some 33, _, _, _, _, _⟩) rfl _ _ _ _ _ rfl (by decide) _ _ _ rfl rfl ?_; intro a na ha; rw [vTWO, vSinK i hi] at ha) | (refine wpList_fbin (o := ⟨some 35, _, _, _, _, _⟩) rfl _ _ _ _ _ rfl (by decide) _ _ _ rfl rfl ?_; intro b nb hb; rw [vTWO, vSinK i hi] at hb) | (refine wpList_fbin (o := ⟨some 36, _, _, _, _, _⟩) rfl _ _ _ _ _ rfl (by decide) _ _ _ rfl rfl ?_; intro c nc hc; rw [hb.val, vONE] at hc) | (refine wpList_fbin (o := ⟨some 37, _, _, _, _, _⟩) rfl _ _ _ _ _ rfl (by decide) _ _ _ rfl rfl ?_; intro d nd hd; rw [ha.val, hc.val, (sin_consts i hlt).1] at hd) | (refine wpList_fbin (o := ⟨some 38, _, _, _, _, _⟩) rfl _ _ _ _ _ rfl (by decide) _ _ _ rfl rfl ?_; intro q nq hq; rw [hm.val, hd.val] at hq) | (refine wpList_fbin (o := ⟨some 39, _, _, _, _, _⟩) rfl _ _ _ _ _ rfl (by decide) _ _ _ rfl rfl ?_; intro r nr hr; rw [vONE, hq.val] at hr) | (refine wpList_fbin (o := ⟨some 28, _, _, _, _, _⟩) rfl _ _ _ _ _ rfl (by decide) _ _ _ rfl rfl ?_; intro kk nkk hkk; rw [vSinK i hi, vONE, (sin_consts i hlt).2.1] at hkk) | fail)
      go_roundw
      case rel => exact ⟨i + 1, by omega, _, rfl, by rw [← val_some hkk.val], hr, _, rfl⟩
      case measure => have := sinK_lt i hlt; rw [val_some hkk.val] at this; simpa using this
    · rw [decide_eq_false hlt] at ht
      obtain rfl : i = 8 := by omega
      have ht' : (FloatKind.f64.format.order (sinK 8) 4607182418800017408 == some .gt || FloatKind.f64.format.order (sinK 8) 4607182418800017408 == some .eq) = false := ht
      clear ht
      go_wp2_with (first | (refine wpList_fbin (o := ⟨some 47, _, _, _, _, _⟩) rfl _ _ _ _ _ rfl (by decide) _ _ _ rfl rfl ?_; intro q nq hq; rw [hz.val, hp.val] at hq) | fail)
      go_ret
      refine ⟨_, rfl, ?_, _, rfl⟩
      unfold sineV
      rw [if_neg (by rw [HB1.out]; decide)]
      exact hq

theorem impl_sine_00 (x : Nat) (n : Int) (hn : floatToIntVal .f64 x .i64 = some n) (F : Option Nat) (hF : fracV (val .f64 x) n = F) (b1 : geqV F (some HALF) = false) (b2 : gtV (fold1 F) (some QUARTER) = false) (w : World) :
    Calls Try.prog 99 #[.float .f64 x] w fun e w' => ∃ r, e = .returned (.float .f64 r) ∧ FR .f64 r (sineV F) ∧ ∃ n, w' = w.drewN n := by
  have hF1 : fold1 F = F := by unfold fold1; rw [b1]; rfl
  have hF2 : fold2 (fold1 F) = F := by unfold fold2; rw [b2, hF1]; rfl
  have b2' := b2
  rw [hF1] at b2'
  have HF : Hid (fracV (val .f64 x) n = F) := hF
  have HB1 : Hid (geqV F (some HALF) = false) := b1
  have HB2 : Hid (gtV F (some QUARTER) = false) := b2'
  have HF2 : Hid (fold2 (fold1 F) = F) := hF2
  clear hF b1 b2 b2' hF1 hF2
  go_enter Try.func99, Try.ntmps99
  go_wp2_with (first | (go_at_call 117; refine (impl_fraction _ n hn _).mono ?_; rintro e w' ⟨f, rfl, hf, nf, rfl⟩; rw [HF.out] at hf; have t1 : (FloatKind.f64.format.order f 4602678819172646912 == some .gt || FloatKind.f64.format.order f 4602678819172646912 == some .eq) = false := (by rw [order_cmp, hf.val, vHALF]; exact HB1.out); have t2 : (FloatKind.f64.format.order f 4598175219545276416 == some .gt) = false := (by rw [order_cmp, hf.val, vQUARTER]; exact HB2.out)) | (refine wpList_fbin (o := ⟨some 21, _, _, _, _, _⟩) rfl _ _ _ _ _ rfl (by decide) _ _ _ rfl rfl ?_; intro z nz hz; rw [hf.val, vTURN, ← HF2.out] at hz) | (refine wpList_fbin (o := ⟨some 24, _, _, _, _, _⟩) rfl _ _ _ _ _ rfl (by decide) _ _ _ rfl rfl ?_; intro u nu hu; rw [hz.val] at hu) | fail)
  go_loopw [7, 8] (fun p k wr => ∃ i : Nat, i ≤ 8 ∧ ∃ pb : Nat, p = .float .f64 pb ∧ k = .float .f64 (sinK i) ∧ FR .f64 pb (sinP (bin .mul .f64 (sinZ F) (sinZ F)) i) ∧ ∃ n, wr = w.drewN n) (fun _ k _ => match k with | .float _ b => b | _ => 0)
  case atStart => exact ⟨0, by omega, _, rfl, rfl, ⟨by decide, vONE⟩, _, rfl⟩
  case round =>
    obtain ⟨i, hi, pb, rfl, rfl, hp, nw, rfl⟩ := hrel
    have ht := sin_test i hi
    by_cases hlt : i < 8
    · rw [decide_eq_true hlt] at ht
      have ht' : (FloatKind.f64.format.order (sinK i) 4607182418800017408 == some .gt || FloatKind.f64.format.order (sinK i) 4607182418800017408 == some .eq) = true := ht
      clear ht
      go_wp2_with (first | (refine wpList_fbin (o := ⟨some 31, _, _, _, _, _⟩) rfl _ _ _ _ _ rfl (by decide) _ _ _ rfl rfl ?_; intro m nm hm; rw [hu.val, hp.val] at hm) | (refine wpList_fbin (o := ⟨some 33, _, _, _, _, _⟩) rfl _ _ _ _ _ rfl (by decide) _ _ _ rfl rfl ?_; intro a na ha; rw [vTWO, vSinK i hi] at ha) | (refine wpList_fbin (o := ⟨some 35, _, _, _, _, _⟩) rfl _ _ _ _ _ rfl (by decide) _ _ _ rfl rfl ?_; intro b nb hb; rw [vTWO, vSinK i hi] at hb) | (refine wpList_fbin (o := ⟨some 36, _, _, _, _, _⟩) rfl _ _ _ _ _ rfl (by decide) _ _ _ rfl rfl ?_; intro c nc hc; rw [hb.val, vONE] at hc) | (refine wpList_fbin (o := ⟨some 37, _, _, _, _, _⟩) rfl _ _ _ _ _ rfl (by decide) _ _ _ rfl rfl ?_; intro d nd hd; rw [ha.val, hc.val, (sin_consts i hlt).1] at hd) | (refine wpList_fbin (o := ⟨some 38, _, _, _, _, _⟩) rfl _ _ _ _ _ rfl (by decide) _ _ _ rfl rfl ?_; intro q nq hq; rw [hm.val, hd.val] at hq) | (refine wpList_fbin (o := ⟨some 39, _, _, _, _, _⟩) rfl _ _ _ _ _ rfl (by decide) _ _ _ rfl rfl ?_; intro r nr hr; rw [vONE, hq.val] at hr) | (refine wpList_fbin (o := ⟨some 28, _, _, _, _, _⟩) rfl _ _ _ _ _ rfl (by decide) _ _ _ rfl rfl ?_; intro kk nkk hkk; rw [vSinK i hi, vONE, (sin_consts i hlt).2.1] at hkk) | fail)
      go_roundw
      case rel => exact ⟨i + 1, by omega, _, rfl, by rw [← val_some hkk.val], hr, _, rfl⟩
      case measure => have := sinK_lt i hlt; rw [val_some hkk.val] at this; simpa using this
    · rw [decide_eq_false hlt] at ht
      obtain rfl : i = 8 := by omega
      have ht' : (FloatKind.f64.format.order (sinK 8) 4607182418800017408 == some .gt || FloatKind.f64.format.order (sinK 8) 4607182418800017408 == some .eq) = false := ht
      clear ht
      go_wp2_with (first | (refine wpList_fbin (o := ⟨some 47, _, _, _, _, _⟩) rfl _ _ _ _ _ rfl (by decide) _ _ _ rfl rfl ?_; intro q nq hq; rw [hz.val, hp.val] at hq) | fail)
      go_ret
      refine ⟨_, rfl, ?_, _, rfl⟩
      unfold sineV
      rw [if_neg (by rw [HB1.out]; decide)]
      exact hq

theorem impl_sine (x : Nat) (n : Int) (hn : floatToIntVal .f64 x .i64 = some n) (w : World) :
    Calls Try.prog 99 #[.float .f64 x] w fun e w' => ∃ r, e = .returned (.float .f64 r) ∧ FR .f64 r (sineV (fracV (val .f64 x) n)) ∧ ∃ n, w' = w.drewN n := by
  cases b1 : geqV (fracV (val .f64 x) n) (some HALF) <;> cases b2 : gtV (fold1 (fracV (val .f64 x) n)) (some QUARTER)
  · exact impl_sine_00 x n hn _ rfl b1 b2 w
  · exact impl_sine_01 x n hn _ rfl b1 b2 w
  · exact impl_sine_10 x n hn _ rfl b1 b2 w
  · exact impl_sine_11 x n hn _ rfl b1 b2 w

end Go.Proofs.Ytepilofcionekaa
namespace Go.Proofs.Ytepilofcionekaa
open Fl Ieee Go.RowKit
set_option linter.unusedVariables false

theorem sin_wrap : ∀ i : Nat, i < 8 → floatOfInt .f64 (wrap64 (2 * (8 - (i : Int)) * (2 * (8 - (i : Int)) + 1))) = sinC i := by
  intro i hi
  match i, hi with
  | 0, _ => decide +kernel
  | 1, _ => decide +kernel
  | 2, _ => decide +kernel
  | 3, _ => decide +kernel
  | 4, _ => decide +kernel
  | 5, _ => decide +kernel
  | 6, _ => decide +kernel
  | 7, _ => decide +kernel

theorem spec_sine_111 (x : Nat) (n : Int) (hn : floatToIntVal .f64 x .i64 = some n) (hfin : cmp .f64 (bin .sub .f64 (val .f64 x) (val .f64 x)) (some 0) = some .eq) (hhi : (FloatKind.f64.format.order x 4841369599423283200 == some .gt || FloatKind.f64.format.order x 4841369599423283200 == some .eq) = false) (hlo : (FloatKind.f64.format.order x 14064741636278059008 == some .lt || FloatKind.f64.format.order x 14064741636278059008 == some .eq) = false) (F : Option Nat) (hF : fracV (val .f64 x) n = F) (b1 : geqV F (some HALF) = true) (b2 : gtV (fold1 F) (some QUARTER) = true) (b0 : ltV (bin .sub .f64 (val .f64 x) (some (floatOfInt .f64 n))) (some 0) = true) (w : World) :
    Calls Try.prog 110 #[.float .f64 x] w fun e w' => ∃ r, e = .returned (.float .f64 r) ∧ FR .f64 r (sineV F) ∧ ∃ n, w' = w.drewN n := by
  have hc : ∀ w, (convert 39 2 (.float .f64 x)).run Try.prog w = .ok (.int .i64 n) w := fun w => run_convert_float_int w 39 2 .f64 .i64 x n (by kernel_rfl) (by kernel_rfl) hn
  have HFIN : Hid (cmp .f64 (bin .sub .f64 (val .f64 x) (val .f64 x)) (some 0) = some .eq) := hfin
  have HB0 : Hid (ltV (bin .sub .f64 (val .f64 x) (some (floatOfInt .f64 n))) (some 0) = true) := b0
  have HF0 : Hid (fracV (val .f64 x) n = bin .add .f64 (bin .sub .f64 (val .f64 x) (some (floatOfInt .f64 n))) (some ONE)) := by unfold Hid fracV; dsimp only; rw [b0]; rfl
  have hF1 : fold1 F = (bin .sub .f64 F (some HALF)) := by unfold fold1; rw [b1]; rfl
  have hF2 : fold2 (fold1 F) = (bin .sub .f64 (some HALF) (bin .sub .f64 F (some HALF))) := by unfold fold2; rw [b2, hF1]; rfl
  have b2' := b2
  rw [hF1] at b2'
  have HF : Hid (fracV (val .f64 x) n = F) := hF
  have HB1 : Hid (geqV F (some HALF) = true) := b1
  have HB2 : Hid (gtV (bin .sub .f64 F (some HALF)) (some QUARTER) = true) := b2'
  have HF2 : Hid (fold2 (fold1 F) = (bin .sub .f64 (some HALF) (bin .sub .f64 F (some HALF)))) := hF2
  clear hF b1 b2 b2' hF1 hF2 b0 hfin hn
  go_enter Try.func110, Try.ntmps110
  go_wp2_with (first | ((refine wpList_fbin (o := ⟨some 11, _, _, _, _, _⟩) rfl _ _ _ _ _ rfl (by decide) _ _ _ rfl rfl ?_; intro y ny hy); have ty : (FloatKind.f64.format.order y 0 != some .eq) = false := (by rw [order_cmp, hy.val, vZERO, HFIN.out]; rfl)) | ((refine wpList_fbin (o := ⟨some 24, _, _, _, _, _⟩) rfl _ _ _ _ _ rfl (by decide) _ _ _ rfl rfl ?_; intro f nf hf; rw [val_ofInt] at hf); have t0 : (FloatKind.f64.format.order f 0 == some .lt) = true := (by rw [order_cmp, hf.val, vZERO]; exact HB0.out)) | ((refine wpList_fbin (o := ⟨some 28, _, _, _, _, _⟩) rfl _ _ _ _ _ rfl (by decide) _ _ _ rfl rfl ?_; intro e ne he; rw [hf.val, vONE, ← HF0.out, HF.out] at he); have t1 : (FloatKind.f64.format.order e 4602678819172646912 == some .gt || FloatKind.f64.format.order e 4602678819172646912 == some .eq) = true := (by rw [order_cmp, he.val, vHALF]; exact HB1.out)) | ((refine wpList_fbin (o := ⟨some 33, _, _, _, _, _⟩) rfl _ _ _ _ _ rfl (by decide) _ _ _ rfl rfl ?_; intro g ng hg; rw [he.val, vHALF] at hg); have t2 : (FloatKind.f64.format.order g 4598175219545276416 == some .gt) = true := (by rw [order_cmp, hg.val, vQUARTER]; exact HB2.out)) | (refine wpList_fbin (o := ⟨some 37, _, _, _, _, _⟩) rfl _ _ _ _ _ rfl (by decide) _ _ _ rfl rfl ?_; intro k nk hk; rw [hg.val, vHALF] at hk) | (refine wpList_fbin (o := ⟨some 39, _, _, _, _, _⟩) rfl _ _ _ _ _ rfl (by decide) _ _ _ rfl rfl ?_; intro z nz hz; rw [hk.val, vTURN, ← HF2.out] at hz) | (refine wpList_fbin (o := ⟨some 42, _, _, _, _, _⟩) rfl _ _ _ _ _ rfl (by decide) _ _ _ rfl rfl ?_; intro u nu hu; rw [hz.val] at hu) | fail)
  go_loopw [7, 8] (fun p k wr => ∃ i : Nat, i ≤ 8 ∧ ∃ pb : Nat, p = .float .f64 pb ∧ k = .int .i64 (8 - (i : Int)) ∧ FR .f64 pb (sinP (bin .mul .f64 (sinZ F) (sinZ F)) i) ∧ ∃ n, wr = w.drewN n) (fun _ k _ => (intOf k).toNat)
  case atStart => exact ⟨0, by omega, _, rfl, rfl, ⟨by decide, vONE⟩, _, rfl⟩
  case round =>
    obtain ⟨i, hi, pb, rfl, rfl, hp, nw, rfl⟩ := hrel
    by_cases hlt : i < 8
    · have hb1 : (1 : Int) ≤ 8 - (i : Int) := by omega
      have hb8 : (8 : Int) - (i : Int) ≤ 8 := by omega
      go_wp2_with (first | (refine wpList_fbin (o := ⟨some 49, _, _, _, _, _⟩) rfl _ _ _ _ _ rfl (by decide) _ _ _ rfl rfl ?_; intro m nm hm; rw [hu.val, hp.val] at hm) | (refine wpList_fbin (o := ⟨some 57, _, _, _, _, _⟩) rfl _ _ _ _ _ rfl (by decide) _ _ _ rfl rfl ?_; intro q nq hq; rw [hm.val, val_ofInt, sin_wrap i hlt] at hq) | (refine wpList_fbin (o := ⟨some 58, _, _, _, _, _⟩) rfl _ _ _ _ _ rfl (by decide) _ _ _ rfl rfl ?_; intro r nr hr; rw [vONE, hq.val] at hr) | fail)
      go_roundw
      case rel => exact ⟨i + 1, by omega, _, rfl, by congr 1; omega, hr, _, rfl⟩
      case measure => simp [intOf]; omega
    · obtain rfl : i = 8 := by omega
      go_wp2_with (first | (refine wpList_fbin (o := ⟨some 62, _, _, _, _, _⟩) rfl _ _ _ _ _ rfl (by decide) _ _ _ rfl rfl ?_; intro q nq hq; rw [hz.val, hp.val] at hq) | fail)
      go_ret
      refine ⟨_, rfl, ?_, _, rfl⟩
      unfold sineV
      rw [if_pos HB1.out]
      exact FR_neg64 hq

theorem spec_sine_110 (x : Nat) (n : Int) (hn : floatToIntVal .f64 x .i64 = some n) (hfin : cmp .f64 (bin .sub .f64 (val .f64 x) (val .f64 x)) (some 0) = some .eq) (hhi : (FloatKind.f64.format.order x 4841369599423283200 == some .gt || FloatKind.f64.format.order x 4841369599423283200 == some .eq) = false) (hlo : (FloatKind.f64.format.order x 14064741636278059008 == some .lt || FloatKind.f64.format.order x 14064741636278059008 == some .eq) = false) (F : Option Nat) (hF : fracV (val .f64 x) n = F) (b1 : geqV F (some HALF) = true) (b2 : gtV (fold1 F) (some QUARTER) = false) (b0 : ltV (bin .sub .f64 (val .f64 x) (some (floatOfInt .f64 n))) (some 0) = true) (w : World) :
    Calls Try.prog 110 #[.float .f64 x] w fun e w' => ∃ r, e = .returned (.float .f64 r) ∧ FR .f64 r (sineV F) ∧ ∃ n, w' = w.drewN n := by
  have hc : ∀ w, (convert 39 2 (.float .f64 x)).run Try.prog w = .ok (.int .i64 n) w := fun w => run_convert_float_int w 39 2 .f64 .i64 x n (by kernel_rfl) (by kernel_rfl) hn
  have HFIN : Hid (cmp .f64 (bin .sub .f64 (val .f64 x) (val .f64 x)) (some 0) = some .eq) := hfin
  have HB0 : Hid (ltV (bin .sub .f64 (val .f64 x) (some (floatOfInt .f64 n))) (some 0) = true) := b0
  have HF0 : Hid (fracV (val .f64 x) n = bin .add .f64 (bin .sub .f64 (val .f64 x) (some (floatOfInt .f64 n))) (some ONE)) := by unfold Hid fracV; dsimp only; rw [b0]; rfl
  have hF1 : fold1 F = (bin .sub .f64 F (some HALF)) := by unfold fold1; rw [b1]; rfl
  have hF2 : fold2 (fold1 F) = (bin .sub .f64 F (some HALF)) := by unfold fold2; rw [b2, hF1]; rfl
  have b2' := b2
  rw [hF1] at b2'
  have HF : Hid (fracV (val .f64 x) n = F) := hF
  have HB1 : Hid (geqV F (some HALF) = true) := b1
  have HB2 : Hid (gtV (bin .sub .f64 F (some HALF)) (some QUARTER) = false) := b2'
  have HF2 : Hid (fold2 (fold1 F) = (bin .sub .f64 F (some HALF))) := hF2
  clear hF b1 b2 b2' hF1 hF2 b0 hfin hn
  go_enter Try.func110, Try.ntmps110
  go_wp2_with (first | ((refine wpList_fbin (o := ⟨some 11, _, _, _, _, _⟩) rfl _ _ _ _ _ rfl (by decide) _ _ _ rfl rfl ?_; intro y ny hy); have ty : (FloatKind.f64.format.order y 0 != some .eq) = false := (by rw [order_cmp, hy.val, vZERO, HFIN.out]; rfl)) | ((refine wpList_fbin (o := ⟨some 24, _, _, _, _, _⟩) rfl _ _ _ _ _ rfl (by decide) _ _ _ rfl rfl ?_; intro f nf hf; rw [val_ofInt] at hf); have t0 : (FloatKind.f64.format.order f 0 == some .lt) = true := (by rw [order_cmp, hf.val, vZERO]; exact HB0.out)) | ((refine wpList_fbin (o := ⟨some 28, _, _, _, _, _⟩) rfl _ _ _ _ _ rfl (by decide) _ _ _ rfl rfl ?_; intro e ne he; rw [hf.val, vONE, ← HF0.out, HF.out] at he); have t1 : (FloatKind.f64.format.order e 4602678819172646912 == some .gt || FloatKind.f64.format.order e 4602678819172646912 == some .eq) = true := (by rw [order_cmp, he.val, vHALF]; exact HB1.out)) | ((refine wpList_fbin (o := ⟨some 33, _, _, _, _, _⟩) rfl _ _ _ _ _ rfl (by decide) _ _ _ rfl rfl ?_; intro g ng hg; rw [he.val, vHALF] at hg); have t2 : (FloatKind.f64.format.order g 4598175219545276416 == some .gt) = false := (by rw [order_cmp, hg.val, vQUARTER]; exact HB2.out)) | (refine wpList_fbin (o := ⟨some 39, _, _, _, _, _⟩) rfl _ _ _ _ _ rfl (by decide) _ _ _ rfl rfl ?_; intro z nz hz; rw [hg.val, vTURN, ← HF2.out] at hz) | (refine wpList_fbin (o := ⟨some 42, _, _, _, _, _⟩) rfl _ _ _ _ _ rfl (by decide) _ _ _ rfl rfl ?_; intro u nu hu; rw [hz.val] at hu) | fail)
  go_loopw [7, 8] (fun p k wr => ∃ i : Nat, i ≤ 8 ∧ ∃ pb : Nat, p = .float .f64 pb ∧ k = .int .i64 (8 - (i : Int)) ∧ FR .f64 pb (sinP (bin .mul .f64 (sinZ F) (sinZ F)) i) ∧ ∃ n, wr = w.drewN n) (fun _ k _ => (intOf k).toNat)
  case atStart => exact ⟨0, by omega, _, rfl, rfl, ⟨by decide, vONE⟩, _, rfl⟩
  case round =>
    obtain ⟨i, hi, pb, rfl, rfl, hp, nw, rfl⟩ := hrel
    by_cases hlt : i < 8
    · have hb1 : (1 : Int) ≤ 8 - (i : Int) := by omega
      have hb8 : (8 : Int) - (i : Int) ≤ 8 := by omega
      go_wp2_with (first | (refine wpList_fbin (o := ⟨some 49, _, _, _, _, _⟩) rfl _ _ _ _ _ rfl (by decide) _ _ _ rfl rfl ?_; intro m nm hm; rw [hu.val, hp.val] at hm) | (refine wpList_fbin (o := ⟨some 57, _, _, _, _, _⟩) rfl _ _ _ _ _ rfl (by decide) _ _ _ rfl rfl ?_; intro q nq hq; rw [hm.val, val_ofInt, sin_wrap i hlt] at hq) | (refine wpList_fbin (o := ⟨some 58, _, _, _, _, _⟩) rfl _ _ _ _ _ rfl (by decide) _ _ _ rfl rfl ?_; intro r nr hr; rw [vONE, hq.val] at hr) | fail)
      go_roundw
      case rel => exact ⟨i + 1, by omega, _, rfl, by congr 1; omega, hr, _, rfl⟩
      case measure => simp [intOf]; omega
    · obtain rfl : i = 8 := by omega
      go_wp2_with (first | (refine wpList_fbin (o := ⟨some 62, _, _, _, _, _⟩) rfl _ _ _ _ _ rfl (by decide) _ _ _ rfl rfl ?_; intro q nq hq; rw [hz.val, hp.val] at hq) | fail)
      go_ret
      refine ⟨_, rfl, ?_, _, rfl⟩
      unfold sineV
      rw [if_pos HB1.out]
      exact FR_neg64 hq

theorem spec_sine_101 (x : Nat) (n : Int) (hn : floatToIntVal .f64 x .i64 = some n) (hfin : cmp .f64 (bin .sub .f64 (val .f64 x) (val .f64 x)) (some 0) = some .eq) (hhi : (FloatKind.f64.format.order x 4841369599423283200 == some .gt || FloatKind.f64.format.order x 4841369599423283200 == some .eq) = false) (hlo : (FloatKind.f64.format.order x 14064741636278059008 == some .lt || FloatKind.f64.format.order x 14064741636278059008 == some .eq) = false) (F : Option Nat) (hF : fracV (val .f64 x) n = F) (b1 : geqV F (some HALF) = false) (b2 : gtV (fold1 F) (some QUARTER) = true) (b0 : ltV (bin .sub .f64 (val .f64 x) (some (floatOfInt .f64 n))) (some 0) = true) (w : World) :
    Calls Try.prog 110 #[.float .f64 x] w fun e w' => ∃ r, e = .returned (.float .f64 r) ∧ FR .f64 r (sineV F) ∧ ∃ n, w' = w.drewN n := by
  have hc : ∀ w, (convert 39 2 (.float .f64 x)).run Try.prog w = .ok (.int .i64 n) w := fun w => run_convert_float_int w 39 2 .f64 .i64 x n (by kernel_rfl) (by kernel_rfl) hn
  have HFIN : Hid (cmp .f64 (bin .sub .f64 (val .f64 x) (val .f64 x)) (some 0) = some .eq) := hfin
  have HB0 : Hid (ltV (bin .sub .f64 (val .f64 x) (some (floatOfInt .f64 n))) (some 0) = true) := b0
  have HF0 : Hid (fracV (val .f64 x) n = bin .add .f64 (bin .sub .f64 (val .f64 x) (some (floatOfInt .f64 n))) (some ONE)) := by unfold Hid fracV; dsimp only; rw [b0]; rfl
  have hF1 : fold1 F = F := by unfold fold1; rw [b1]; rfl
  have hF2 : fold2 (fold1 F) = (bin .sub .f64 (some HALF) F) := by unfold fold2; rw [b2, hF1]; rfl
  have b2' := b2
  rw [hF1] at b2'
  have HF : Hid (fracV (val .f64 x) n = F) := hF
  have HB1 : Hid (geqV F (some HALF) = false) := b1
  have HB2 : Hid (gtV F (some QUARTER) = true) := b2'
  have HF2 : Hid (fold2 (fold1 F) = (bin .sub .f64 (some HALF) F)) := hF2
  clear hF b1 b2 b2' hF1 hF2 b0 hfin hn
  go_enter Try.func110, Try.ntmps110
  go_wp2_with (first | ((refine wpList_fbin (o := ⟨some 11, _, _, _, _, _⟩) rfl _ _ _ _ _ rfl (by decide) _ _ _ rfl rfl ?_; intro y ny hy); have ty : (FloatKind.f64.format.order y 0 != some .eq) = false := (by rw [order_cmp, hy.val, vZERO, HFIN.out]; rfl)) | ((refine wpList_fbin (o := ⟨some 24, _, _, _, _, _⟩) rfl _ _ _ _ _ rfl (by decide) _ _ _ rfl rfl ?_; intro f nf hf; rw [val_ofInt] at hf); have t0 : (FloatKind.f64.format.order f 0 == some .lt) = true := (by rw [order_cmp, hf.val, vZERO]; exact HB0.out)) | ((refine wpList_fbin (o := ⟨some 28, _, _, _, _, _⟩) rfl _ _ _ _ _ rfl (by decide) _ _ _ rfl rfl ?_; intro e ne he; rw [hf.val, vONE, ← HF0.out, HF.out] at he); have t1 : (FloatKind.f64.format.order e 4602678819172646912 == some .gt || FloatKind.f64.format.order e 4602678819172646912 == some .eq) = false := (by rw [order_cmp, he.val, vHALF]; exact HB1.out); have t2 : (FloatKind.f64.format.order e 4598175219545276416 == some .gt) = true := (by rw [order_cmp, he.val, vQUARTER]; exact HB2.out)) | (refine wpList_fbin (o := ⟨some 37, _, _, _, _, _⟩) rfl _ _ _ _ _ rfl (by decide) _ _ _ rfl rfl ?_; intro k nk hk; rw [he.val, vHALF] at hk) | (refine wpList_fbin (o := ⟨some 39, _, _, _, _, _⟩) rfl _ _ _ _ _ rfl (by decide) _ _ _ rfl rfl ?_; intro z nz hz; rw [hk.val, vTURN, ← HF2.out] at hz) | (refine wpList_fbin (o := ⟨some 42, _, _, _, _, _⟩) rfl _ _ _ _ _ rfl (by decide) _ _ _ rfl rfl ?_; intro u nu hu; rw [hz.val] at hu) | fail)
  go_loopw [7, 8] (fun p k wr => ∃ i : Nat, i ≤ 8 ∧ ∃ pb : Nat, p = .float .f64 pb ∧ k = .int .i64 (8 - (i : Int)) ∧ FR .f64 pb (sinP (bin .mul .f64 (sinZ F) (sinZ F)) i) ∧ ∃ n, wr = w.drewN n) (fun _ k _ => (intOf k).toNat)
  case atStart => exact ⟨0, by omega, _, rfl, rfl, ⟨by decide, vONE⟩, _, rfl⟩
  case round =>
    obtain ⟨i, hi, pb, rfl, rfl, hp, nw, rfl⟩ := hrel
    by_cases hlt : i < 8
    · have hb1 : (1 : Int) ≤ 8 - (i : Int) := by omega
      have hb8 : (8 : Int) - (i : Int) ≤ 8 := by omega
      go_wp2_with (first | (refine wpList_fbin (o := ⟨some 49, _, _, _, _, _⟩) rfl _ _ _ _ _ rfl (by decide) _ _ _ rfl rfl ?_; intro m nm hm; rw [hu.val, hp.val] at hm) | (refine wpList_fbin (o := ⟨some 57, _, _, _, _, _⟩) rfl _ _ _ _ _ rfl (by decide) _ _ _ rfl rfl ?_; intro q nq hq; rw [hm.val, val_ofInt, sin_wrap i hlt] at hq) | (refine wpList_fbin (o := ⟨some 58, _, _, _, _, _⟩) rfl _ _ _ _ _ rfl (by decide) _ _ _ rfl rfl ?_; intro r nr hr; rw [vONE, hq.val] at hr) | fail)
      go_roundw
      case rel => exact ⟨i + 1, by omega, _, rfl, by congr 1; omega, hr, _, rfl⟩
      case measure => simp [intOf]; omega
    · obtain rfl : i = 8 := by omega
      go_wp2_with (first | (refine wpList_fbin (o := ⟨some 66, _, _, _, _, _⟩) rfl _ _ _ _ _ rfl (by decide) _ _ _ rfl rfl ?_; intro q nq hq; rw [hz.val, hp.val] at hq) | fail)
      go_ret
      refine ⟨_, rfl, ?_, _, rfl⟩
      unfold sineV
      rw [if_neg (by rw [HB1.out]; decide)]
      exact hq

theorem spec_sine_100 (x : Nat) (n : Int) (hn : floatToIntVal .f64 x .i64 = some n) (hfin : cmp .f64 (bin .sub .f64 (val .f64 x) (val .f64 x)) (some 0) = some .eq) (hhi : (FloatKind.f64.format.order x 4841369599423283200 == some .gt || FloatKind.f64.format.order x 4841369599423283200 == some .eq) = false) (hlo : (FloatKind.f64.format.order x 14064741636278059008 == some .lt || FloatKind.f64.format.order x 14064741636278059008 == some .eq) = false) (F : Option Nat) (hF : fracV (val .f64 x) n = F) (b1 : geqV F (some HALF) = false) (b2 : gtV (fold1 F) (some QUARTER) = false) (b0 : ltV (bin .sub .f64 (val .f64 x) (some (floatOfInt .f64 n))) (some 0) = true) (w : World) :
    Calls Try.prog 110 #[.float .f64 x] w fun e w' => ∃ r, e = .returned (.float .f64 r) ∧ FR .f64 r (sineV F) ∧ ∃ n, w' = w.drewN n := by
  have hc : ∀ w, (convert 39 2 (.float .f64 x)).run Try.prog w = .ok (.int .i64 n) w := fun w => run_convert_float_int w 39 2 .f64 .i64 x n (by kernel_rfl) (by kernel_rfl) hn
  have HFIN : Hid (cmp .f64 (bin .sub .f64 (val .f64 x) (val .f64 x)) (some 0) = some .eq) := hfin
  have HB0 : Hid (ltV (bin .sub .f64 (val .f64 x) (some (floatOfInt .f64 n))) (some 0) = true) := b0
  have HF0 : Hid (fracV (val .f64 x) n = bin .add .f64 (bin .sub .f64 (val .f64 x) (some (floatOfInt .f64 n))) (some ONE)) := by unfold Hid fracV; dsimp only; rw [b0]; rfl
  have hF1 : fold1 F = F := by unfold fold1; rw [b1]; rfl
  have hF2 : fold2 (fold1 F) = F := by unfold fold2; rw [b2, hF1]; rfl
  have b2' := b2
  rw [hF1] at b2'
  have HF : Hid (fracV (val .f64 x) n = F) := hF
  have HB1 : Hid (geqV F (some HALF) = false) := b1
  have HB2 : Hid (gtV F (some QUARTER) = false) := b2'
  have HF2 : Hid (fold2 (fold1 F) = F) := hF2
  clear hF b1 b2 b2' hF1 hF2 b0 hfin hn
  go_enter Try.func110, Try.ntmps110
  go_wp2_with (first | ((refine wpList_fbin (o := ⟨some 11, _, _, _, _, _⟩) rfl _ _ _ _ _ rfl (by decide) _ _ _ rfl rfl ?_; intro y ny hy); have ty : (FloatKind.f64.format.order y 0 != some .eq) = false := (by rw [order_cmp, hy.val, vZERO, HFIN.out]; rfl)) | ((refine wpList_fbin (o := ⟨some 24, _, _, _, _, _⟩) rfl _ _ _ _ _ rfl (by decide) _ _ _ rfl rfl ?_; intro f nf hf; rw [val_ofInt] at hf); have t0 : (FloatKind.f64.format.order f 0 == some .lt) = true := (by rw [order_cmp, hf.val, vZERO]; exact HB0.out)) | ((refine wpList_fbin (o := ⟨some 28, _, _, _, _, _⟩) rfl _ _ _ _ _ rfl (by decide) _ _ _ rfl rfl ?_; intro e ne he; rw [hf.val, vONE, ← HF0.out, HF.out] at he); have t1 : (FloatKind.f64.format.order e 4602678819172646912 == some .gt || FloatKind.f64.format.order e 4602678819172646912 == some .eq) = false := (by rw [order_cmp, he.val, vHALF]; exact HB1.out); have t2 : (FloatKind.f64.format.order e 4598175219545276416 == some .gt) = false := (by rw [order_cmp, he.val, vQUARTER]; exact HB2.out)) | (refine wpList_fbin (o := ⟨some 39, _, _, _, _, _⟩) rfl _ _ _ _ _ rfl (by decide) _ _ _ rfl rfl ?_; intro z nz hz; rw [he.val, vTURN, ← HF2.out] at hz) | (refine wpList_fbin (o := ⟨some 42, _, _, _, _, _⟩) rfl _ _ _ _ _ rfl (by decide) _ _ _ rfl rfl ?_; intro u nu hu; rw [hz.val] at hu) | fail)
  go_loopw [7, 8] (fun p k wr => ∃ i : Nat, i ≤ 8 ∧ ∃ pb : Nat, p = .float .f64 pb ∧ k = .int .i64 (8 - (i : Int)) ∧ FR .f64 pb (sinP (bin .mul .f64 (sinZ F) (sinZ F)) i) ∧ ∃ n, wr = w.drewN n) (fun _ k _ => (intOf k).toNat)
  case atStart => exact ⟨0, by omega, _, rfl, rfl, ⟨by decide, vONE⟩, _, rfl⟩
  case round =>
    obtain ⟨i, hi, pb, rfl, rfl, hp, nw, rfl⟩ := hrel
    by_cases hlt : i < 8
    · have hb1 : (1 : Int) ≤ 8 - (i : Int) := by omega
      have hb8 : (8 : Int) - (i : Int) ≤ 8 := by omega
      go_wp2_with (first | (refine wpList_fbin (o := ⟨some 49, _, _, _, _, _⟩) rfl _ _ _ _ _ rfl (by decide) _ _ _ rfl rfl ?_; intro m nm hm; rw [hu.val, hp.val] at hm) | (refine wpList_fbin (o := ⟨some 57, _, _, _, _, _⟩) rfl _ _ _ _ _ rfl (by decide) _ _ _ rfl rfl ?_; intro q nq hq; rw [hm.val, val_ofInt, sin_wrap i hlt] at hq) | (refine wpList_fbin (o := ⟨some 58, _, _, _, _, _⟩) rfl _ _ _ _ _ rfl (by decide) _ _ _ rfl rfl ?_; intro r nr hr; rw [vONE, hq.val] at hr) | fail)
      go_roundw
      case rel => exact ⟨i + 1, by omega, _, rfl, by congr 1; omega, hr, _, rfl⟩
      case measure => simp [intOf]; omega
    · obtain rfl : i = 8 := by omega
      go_wp2_with (first | (refine wpList_fbin (o := ⟨some 66, _, _, _, _, _⟩) rfl _ _ _ _ _ rfl (by decide) _ _ _ rfl rfl ?_; intro q nq hq; rw [hz.val, hp.val] at hq) | fail)
      go_ret
      refine ⟨_, rfl, ?_, _, rfl⟩
      unfold sineV
      rw [if_neg (by rw [HB1.out]; decide)]
      exact hq

theorem spec_sine_011 (x : Nat) (n : Int) (hn : floatToIntVal .f64 x .i64 = some n) (hfin : cmp .f64 (bin .sub .f64 (val .f64 x) (val .f64 x)) (some 0) = some .eq) (hhi : (FloatKind.f64.format.order x 4841369599423283200 == some .gt || FloatKind.f64.format.order x 4841369599423283200 == some .eq) = false) (hlo : (FloatKind.f64.format.order x 14064741636278059008 == some .lt || FloatKind.f64.format.order x 14064741636278059008 == some .eq) = false) (F : Option Nat) (hF : fracV (val .f64 x) n = F) (b1 : geqV F (some HALF) = true) (b2 : gtV (fold1 F) (some QUARTER) = true) (b0 : ltV (bin .sub .f64 (val .f64 x) (some (floatOfInt .f64 n))) (some 0) = false) (w : World) :
    Calls Try.prog 110 #[.float .f64 x] w fun e w' => ∃ r, e = .returned (.float .f64 r) ∧ FR .f64 r (sineV F) ∧ ∃ n, w' = w.drewN n := by
  have hc : ∀ w, (convert 39 2 (.float .f64 x)).run Try.prog w = .ok (.int .i64 n) w := fun w => run_convert_float_int w 39 2 .f64 .i64 x n (by kernel_rfl) (by kernel_rfl) hn
  have HFIN : Hid (cmp .f64 (bin .sub .f64 (val .f64 x) (val .f64 x)) (some 0) = some .eq) := hfin
  have HB0 : Hid (ltV (bin .sub .f64 (val .f64 x) (some (floatOfInt .f64 n))) (some 0) = false) := b0
  have HF0 : Hid (fracV (val .f64 x) n = bin .sub .f64 (val .f64 x) (some (floatOfInt .f64 n))) := by unfold Hid fracV; dsimp only; rw [b0]; rfl
  have hF1 : fold1 F = (bin .sub .f64 F (some HALF)) := by unfold fold1; rw [b1]; rfl
  have hF2 : fold2 (fold1 F) = (bin .sub .f64 (some HALF) (bin .sub .f64 F (some HALF))) := by unfold fold2; rw [b2, hF1]; rfl
  have b2' := b2
  rw [hF1] at b2'
  have HF : Hid (fracV (val .f64 x) n = F) := hF
  have HB1 : Hid (geqV F (some HALF) = true) := b1
  have HB2 : Hid (gtV (bin .sub .f64 F (some HALF)) (some QUARTER) = true) := b2'
  have HF2 : Hid (fold2 (fold1 F) = (bin .sub .f64 (some HALF) (bin .sub .f64 F (some HALF)))) := hF2
  clear hF b1 b2 b2' hF1 hF2 b0 hfin hn
  go_enter Try.func110, Try.ntmps110
  go_wp2_with (first | ((refine wpList_fbin (o := ⟨some 11, _, _, _, _, _⟩) rfl _ _ _ _ _ rfl (by decide) _ _ _ rfl rfl ?_; intro y ny hy); have ty : (FloatKind.f64.format.order y 0 != some .eq) = false := (by rw [order_cmp, hy.val, vZERO, HFIN.out]; rfl)) | ((refine wpList_fbin (o := ⟨some 24, _, _, _, _, _⟩) rfl _ _ _ _ _ rfl (by decide) _ _ _ rfl rfl ?_; intro f nf hf; rw [val_ofInt] at hf); have t0 : (FloatKind.f64.format.order f 0 == some .lt) = false := (by rw [order_cmp, hf.val, vZERO]; exact HB0.out); rw [← HF0.out, HF.out] at hf; have t1 : (FloatKind.f64.format.order f 4602678819172646912 == some .gt || FloatKind.f64.format.order f 4602678819172646912 == some .eq) = true := (by rw [order_cmp, hf.val, vHALF]; exact HB1.out)) | ((refine wpList_fbin (o := ⟨some 33, _, _, _, _, _⟩) rfl _ _ _ _ _ rfl (by decide) _ _ _ rfl rfl ?_; intro g ng hg; rw [hf.val, vHALF] at hg); have t2 : (FloatKind.f64.format.order g 4598175219545276416 == some .gt) = true := (by rw [order_cmp, hg.val, vQUARTER]; exact HB2.out)) | (refine wpList_fbin (o := ⟨some 37, _, _, _, _, _⟩) rfl _ _ _ _ _ rfl (by decide) _ _ _ rfl rfl ?_; intro k nk hk; rw [hg.val, vHALF] at hk) | (refine wpList_fbin (o := ⟨some 39, _, _, _, _, _⟩) rfl _ _ _ _ _ rfl (by decide) _ _ _ rfl rfl ?_; intro z nz hz; rw [hk.val, vTURN, ← HF2.out] at hz) | (refine wpList_fbin (o := ⟨some 42, _, _, _, _, _⟩) rfl _ _ _ _ _ rfl (by decide) _ _ _ rfl rfl ?_; intro u nu hu; rw [hz.val] at hu) | fail)
  go_loopw [7, 8] (fun p k wr => ∃ i : Nat, i ≤ 8 ∧ ∃ pb : Nat, p = .float .f64 pb ∧ k = .int .i64 (8 - (i : Int)) ∧ FR .f64 pb (sinP (bin .mul .f64 (sinZ F) (sinZ F)) i) ∧ ∃ n, wr = w.drewN n) (fun _ k _ => (intOf k).toNat)
  case atStart => exact ⟨0, by omega, _, rfl, rfl, ⟨by decide, vONE⟩, _, rfl⟩
  case round =>
    obtain ⟨i, hi, pb, rfl, rfl, hp, nw, rfl⟩ := hrel
    by_cases hlt : i < 8
    · have hb1 : (1 : Int) ≤ 8 - (i : Int) := by omega
      have hb8 : (8 : Int) - (i : Int) ≤ 8 := by omega
      go_wp2_with (first | (refine wpList_fbin (o := ⟨some 49, _, _, _, _, _⟩) rfl _ _ _ _ _ rfl (by decide) _ _ _ rfl rfl ?_; intro m nm hm; rw [hu.val, hp.val] at hm) | (refine wpList_fbin (o := ⟨some 57, _, _, _, _, _⟩) rfl _ _ _ _ _ rfl (by decide) _ _ _ rfl rfl ?_; intro q nq hq; rw [hm.val, val_ofInt, sin_wrap i hlt] at hq) | (refine wpList_fbin (o := ⟨some 58, _, _, _, _, _⟩) rfl _ _ _ _ _ rfl (by decide) _ _ _ rfl rfl ?_; intro r nr hr; rw [vONE, hq.val] at hr) | fail)
      go_roundw
      case rel => exact ⟨i + 1, by omega, _, rfl, by congr 1; omega, hr, _, rfl⟩
      case measure => simp [intOf]; omega
    · obtain rfl : i = 8 := by omega
      go_wp2_with (first | (refine wpList_fbin (o := ⟨some 62, _, _, _, _, _⟩) rfl _ _ _ _ _ rfl (by decide) _ _ _ rfl rfl ?_; intro q nq hq; rw [hz.val, hp.val] at hq) | fail)
      go_ret
      refine ⟨_, rfl, ?_, _, rfl⟩
      unfold sineV
      rw [if_pos HB1.out]
      exact FR_neg64 hq

theorem spec_sine_010 (x : Nat) (n : Int) (hn : floatToIntVal .f64 x .i64 = some n) (hfin : cmp .f64 (bin .sub .f64 (val .f64 x) (val .f64 x)) (some 0) = some .eq) (hhi : (FloatKind.f64.format.order x 4841369599423283200 == some .gt || FloatKind.f64.format.order x 4841369599423283200 == some .eq) = false) (hlo : (FloatKind.f64.format.order x 14064741636278059008 == some .lt || FloatKind.f64.format.order x 14064741636278059008 == some .eq) = false) (F : Option Nat) (hF : fracV (val .f64 x) n = F) (b1 : geqV F (some HALF) = true) (b2 : gtV (fold1 F) (some QUARTER) = false) (b0 : ltV (bin .sub .f64 (val .f64 x) (some (floatOfInt .f64 n))) (some 0) = false) (w : World) :
    Calls Try.prog 110 #[.float .f64 x] w fun e w' => ∃ r, e = .returned (.float .f64 r) ∧ FR .f64 r (sineV F) ∧ ∃ n, w' = w.drewN n := by
  have hc : ∀ w, (convert 39 2 (.float .f64 x)).run Try.prog w = .ok (.int .i64 n) w := fun w => run_convert_float_int w 39 2 .f64 .i64 x n (by kernel_rfl) (by kernel_rfl) hn
  have HFIN : Hid (cmp .f64 (bin .sub .f64 (val .f64 x) (val .f64 x)) (some 0) = some .eq) := hfin
  have HB0 : Hid (ltV (bin .sub .f64 (val .f64 x) (some (floatOfInt .f64 n))) (some 0) = false) := b0
  have HF0 : Hid (fracV (val .f64 x) n = bin .sub .f64 (val .f64 x) (some (floatOfInt .f64 n))) := by unfold Hid fracV; dsimp only; rw [b0]; rfl
  have hF1 : fold1 F = (bin .sub .f64 F (some HALF)) := by unfold fold1; rw [b1]; rfl
  have hF2 : fold2 (fold1 F) = (bin .sub .f64 F (some HALF)) := by unfold fold2; rw [b2, hF1]; rfl
  have b2' := b2
  rw [hF1] at b2'
  have HF : Hid (fracV (val .f64 x) n = F) := hF
  have HB1 : Hid (geqV F (some HALF) = true) := b1
  have HB2 : Hid (gtV (bin .sub .f64 F (some HALF)) (some QUARTER) = false) := b2'
  have HF2 : Hid (fold2 (fold1 F) = (bin .sub .f64 F (some HALF))) := hF2
  clear hF b1 b2 b2' hF1 hF2 b0 hfin hn
  go_enter Try.func110, Try.ntmps110
  go_wp2_with (first | ((refine wpList_fbin (o := ⟨some 11, _, _, _, _, _⟩) rfl _ _ _ _ _ rfl (by decide) _ _ _ rfl rfl ?_; intro y ny hy); have ty : (FloatKind.f64.format.order y 0 != some .eq) = false := (by rw [order_cmp, hy.val, vZERO, HFIN.out]; rfl)) | ((refine wpList_fbin (o := ⟨some 24, _, _, _, _, _⟩) rfl _ _ _ _ _ rfl (by decide) _ _ _ rfl rfl ?_; intro f nf hf; rw [val_ofInt] at hf); have t0 : (FloatKind.f64.format.order f 0 == some .lt) = false := (by rw [order_cmp, hf.val, vZERO]; exact HB0.out); rw [← HF0.out, HF.out] at hf; have t1 : (FloatKind.f64.format.order f 4602678819172646912 == some .gt || FloatKind.f64.format.order f 4602678819172646912 == some .eq) = true := (by rw [order_cmp, hf.val, vHALF]; exact HB1.out)) | ((refine wpList_fbin (o := ⟨some 33, _, _, _, _, _⟩) rfl _ _ _ _ _ rfl (by decide) _ _ _ rfl rfl ?_; intro g ng hg; rw [hf.val, vHALF] at hg); have t2 : (FloatKind.f64.format.order g 4598175219545276416 == some .gt) = false := (by rw [order_cmp, hg.val, vQUARTER]; exact HB2.out)) | (refine wpList_fbin (o := ⟨some 39, _, _, _, _, _⟩) rfl _ _ _ _ _ rfl (by decide) _ _ _ rfl rfl ?_; intro z nz hz; rw [hg.val, vTURN, ← HF2.out] at hz) | (refine wpList_fbin (o := ⟨some 42, _, _, _, _, _⟩) rfl _ _ _ _ _ rfl (by decide) _ _ _ rfl rfl ?_; intro u nu hu; rw [hz.val] at hu) | fail)
  go_loopw [7, 8] (fun p k wr => ∃ i : Nat, i ≤ 8 ∧ ∃ pb : Nat, p = .float .f64 pb ∧ k = .int .i64 (8 - (i : Int)) ∧ FR .f64 pb (sinP (bin .mul .f64 (sinZ F) (sinZ F)) i) ∧ ∃ n, wr = w.drewN n) (fun _ k _ => (intOf k).toNat)
  case atStart => exact ⟨0, by omega, _, rfl, rfl, ⟨by decide, vONE⟩, _, rfl⟩
  case round =>
    obtain ⟨i, hi, pb, rfl, rfl, hp, nw, rfl⟩ := hrel
    by_cases hlt : i < 8
    · have hb1 : (1 : Int) ≤ 8 - (i : Int) := by omega
      have hb8 : (8 : Int) - (i : Int) ≤ 8 := by omega
      go_wp2_with (first | (refine wpList_fbin (o := ⟨some 49, _, _, _, _, _⟩) rfl _ _ _ _ _ rfl (by decide) _ _ _ rfl rfl ?_; intro m nm hm; rw [hu.val, hp.val] at hm) | (refine wpList_fbin (o := ⟨some 57, _, _, _, _, _⟩) rfl _ _ _ _ _ rfl (by decide) _ _ _ rfl rfl ?_; intro q nq hq; rw [hm.val, val_ofInt, sin_wrap i hlt] at hq) | (refine wpList_fbin (o := ⟨some 58, _, _, _, _, _⟩) rfl _ _ _ _ _ rfl (by decide) _ _ _ rfl rfl ?_; intro r nr hr; rw [vONE, hq.val] at hr) | fail)
      go_roundw
      case rel => exact ⟨i + 1, by omega, _, rfl, by congr 1; omega, hr, _, rfl⟩
      case measure => simp [intOf]; omega
    · obtain rfl : i = 8 := by omega
      go_wp2_with (first | (refine wpList_fbin (o := ⟨some 62, _, _, _, _, _⟩) rfl _ _ _ _ _ rfl (by decide) _ _ _ rfl rfl ?_; intro q nq hq; rw [hz.val, hp.val] at hq) | fail)
      go_ret
      refine ⟨_, rfl, ?_, _, rfl⟩
      unfold sineV
      rw [if_pos HB1.out]
      exact FR_neg64 hq

theorem spec_sine_001 (x : Nat) (n : Int) (hn : floatToIntVal .f64 x .i64 = some n) (hfin : cmp .f64 (bin .sub .f64 (val .f64 x) (val .f64 x)) (some 0) = some .eq) (hhi : (FloatKind.f64.format.order x 4841369599423283200 == some .gt || FloatKind.f64.format.order x 4841369599423283200 == some .eq) = false) (hlo : (FloatKind.f64.format.order x 14064741636278059008 == some .lt || FloatKind.f64.format.order x 14064741636278059008 == some .eq) = false) (F : Option Nat) (hF : fracV (val .f64 x) n = F) (b1 : geqV F (some HALF) = false) (b2 : gtV (fold1 F) (some QUARTER) = true) (b0 : ltV (bin .sub .f64 (val .f64 x) (some (floatOfInt .f64 n))) (some 0) = false) (w : World) :
    Calls Try.prog 110 #[.float .f64 x] w fun e w' => ∃ r, e = .returned (.float .f64 r) ∧ FR .f64 r (sineV F) ∧ ∃ n, w' = w.drewN n := by
  have hc : ∀ w, (convert 39 2 (.float .f64 x)).run Try.prog w = .ok (.int .i64 n) w := fun w => run_convert_float_int w 39 2 .f64 .i64 x n (by kernel_rfl) (by kernel_rfl) hn
  have HFIN : Hid (cmp .f64 (bin .sub .f64 (val .f64 x) (val .f64 x)) (some 0) = some .eq) := hfin
  have HB0 : Hid (ltV (bin .sub .f64 (val .f64 x) (some (floatOfInt .f64 n))) (some 0) = false) := b0
  have HF0 : Hid (fracV (val .f64 x) n = bin .sub .f64 (val .f64 x) (some (floatOfInt .f64 n))) := by unfold Hid fracV; dsimp only; rw [b0]; rfl
  have hF1 : fold1 F = F := by unfold fold1; rw [b1]; rfl
  have hF2 : fold2 (fold1 F) = (bin .sub .f64 (some HALF) F) := by unfold fold2; rw [b2, hF1]; rfl
  have b2' := b2
  rw [hF1] at b2'
  have HF : Hid (fracV (val .f64 x) n = F) := hF
  have HB1 : Hid (geqV F (some HALF) = false) := b1
  have HB2 : Hid (gtV F (some QUARTER) = true) := b2'
  have HF2 : Hid (fold2 (fold1 F) = (bin .sub .f64 (some HALF) F)) := hF2
  clear hF b1 b2 b2' hF1 hF2 b0 hfin hn
  go_enter Try.func110, Try.ntmps110
  go_wp2_with (first | ((refine wpList_fbin (o := ⟨some 11, _, _, _, _, _⟩) rfl _ _ _ _ _ rfl (by decide) _ _ _ rfl rfl ?_; intro y ny hy); have ty : (FloatKind.f64.format.order y 0 != some .eq) = false := (by rw [order_cmp, hy.val, vZERO, HFIN.out]; rfl)) | ((refine wpList_fbin (o := ⟨some 24, _, _, _, _, _⟩) rfl _ _ _ _ _ rfl (by decide) _ _ _ rfl rfl ?_; intro f nf hf; rw [val_ofInt] at hf); have t0 : (FloatKind.f64.format.order f 0 == some .lt) = false := (by rw [order_cmp, hf.val, vZERO]; exact HB0.out); rw [← HF0.out, HF.out] at hf; have t1 : (FloatKind.f64.format.order f 4602678819172646912 == some .gt || FloatKind.f64.format.order f 4602678819172646912 == some .eq) = false := (by rw [order_cmp, hf.val, vHALF]; exact HB1.out); have t2 : (FloatKind.f64.format.order f 4598175219545276416 == some .gt) = true := (by rw [order_cmp, hf.val, vQUARTER]; exact HB2.out)) | (refine wpList_fbin (o := ⟨some 37, _, _, _, _, _⟩) rfl _ _ _ _ _ rfl (by decide) _ _ _ rfl rfl ?_; intro k nk hk; rw [hf.val, vHALF] at hk) | (refine wpList_fbin (o := ⟨some 39, _, _, _, _, _⟩) rfl _ _ _ _ _ rfl (by decide) _ _ _ rfl rfl ?_; intro z nz hz; rw [hk.val, vTURN, ← HF2.out] at hz) | (refine wpList_fbin (o := ⟨some 42, _, _, _, _, _⟩) rfl _ _ _ _ _ rfl (by decide) _ _ _ rfl rfl ?_; intro u nu hu; rw [hz.val] at hu) | fail)
  go_loopw [7, 8] (fun p k wr => ∃ i : Nat, i ≤ 8 ∧ ∃ pb : Nat, p = .float .f64 pb ∧ k = .int .i64 (8 - (i : Int)) ∧ FR .f64 pb (sinP (bin .mul .f64 (sinZ F) (sinZ F)) i) ∧ ∃ n, wr = w.drewN n) (fun _ k _ => (intOf k).toNat)
  case atStart => exact ⟨0, by omega, _, rfl, rfl, ⟨by decide, vONE⟩, _, rfl⟩
  case round =>
    obtain ⟨i, hi, pb, rfl, rfl, hp, nw, rfl⟩ := hrel
    by_cases hlt : i < 8
    · have hb1 : (1 : Int) ≤ 8 - (i : Int) := by omega
      have hb8 : (8 : Int) - (i : Int) ≤ 8 := by omega
      go_wp2_with (first | (refine wpList_fbin (o := ⟨some 49, _, _, _, _, _⟩) rfl _ _ _ _ _ rfl (by decide) _ _ _ rfl rfl ?_; intro m nm hm; rw [hu.val, hp.val] at hm) | (refine wpList_fbin (o := ⟨some 57, _, _, _, _, _⟩) rfl _ _ _ _ _ rfl (by decide) _ _ _ rfl rfl ?_; intro q nq hq; rw [hm.val, val_ofInt, sin_wrap i hlt] at hq) | (refine wpList_fbin (o := ⟨some 58, _, _, _, _, _⟩) rfl _ _ _ _ _ rfl (by decide) _ _ _ rfl rfl ?_; intro r nr hr; rw [vONE, hq.val] at hr) | fail)
      go_roundw
      case rel => exact ⟨i + 1, by omega, _, rfl, by congr 1; omega, hr, _, rfl⟩
      case measure => simp [intOf]; omega
    · obtain rfl : i = 8 := by omega
      go_wp2_with (first | (refine wpList_fbin (o := ⟨some 66, _, _, _, _, _⟩) rfl _ _ _ _ _ rfl (by decide) _ _ _ rfl rfl ?_; intro q nq hq; rw [hz.val, hp.val] at hq) | fail)
      go_ret
      refine ⟨_, rfl, ?_, _, rfl⟩
      unfold sineV
      rw [if_neg (by rw [HB1.out]; decide)]
      exact hq

theorem spec_sine_000 (x : Nat) (n : Int) (hn : floatToIntVal .f64 x .i64 = some n) (hfin : cmp .f64 (bin .sub .f64 (val .f64 x) (val .f64 x)) (some 0) = some .eq) (hhi : (FloatKind.f64.format.order x 4841369599423283200 == some .gt || FloatKind.f64.format.order x 4841369599423283200 == some .eq) = false) (hlo : (FloatKind.f64.format.order x 14064741636278059008 == some .lt || FloatKind.f64.format.order x 14064741636278059008 == some .eq) = false) (F : Option Nat) (hF : fracV (val .f64 x) n = F) (b1 : geqV F (some HALF) = false) (b2 : gtV (fold1 F) (some QUARTER) = false) (b0 : ltV (bin .sub .f64 (val .f64 x) (some (floatOfInt .f64 n))) (some 0) = false) (w : World) :
    Calls Try.prog 110 #[.float .f64 x] w fun e w' => ∃ r, e = .returned (.float .f64 r) ∧ FR .f64 r (sineV F) ∧ ∃ n, w' = w.drewN n := by
  have hc : ∀ w, (convert 39 2 (.float .f64 x)).run Try.prog w = .ok (.int .i64 n) w := fun w => run_convert_float_int w 39 2 .f64 .i64 x n (by kernel_rfl) (by kernel_rfl) hn
  have HFIN : Hid (cmp .f64 (bin .sub .f64 (val .f64 x) (val .f64 x)) (some 0) = some .eq) := hfin
  have HB0 : Hid (ltV (bin .sub .f64 (val .f64 x) (some (floatOfInt .f64 n))) (some 0) = false) := b0
  have HF0 : Hid (fracV (val .f64 x) n = bin .sub .f64 (val .f64 x) (some (floatOfInt .f64 n))) := by unfold Hid fracV; dsimp only; rw [b0]; rfl
  have hF1 : fold1 F = F := by unfold fold1; rw [b1]; rfl
  have hF2 : fold2 (fold1 F) = F := by unfold fold2; rw [b2, hF1]; rfl
  have b2' := b2
  rw [hF1] at b2'
  have HF : Hid (fracV (val .f64 x) n = F) := hF
  have HB1 : Hid (geqV F (some HALF) = false) := b1
  have HB2 : Hid (gtV F (some QUARTER) = false) := b2'
  have HF2 : Hid (fold2 (fold1 F) = F) := hF2
  clear hF b1 b2 b2' hF1 hF2 b0 hfin hn
  go_enter Try.func110, Try.ntmps110
  go_wp2_with (first | ((refine wpList_fbin (o := ⟨some 11, _, _, _, _, _⟩) rfl _ _ _ _ _ rfl (by decide) _ _ _ rfl rfl ?_; intro y ny hy); have ty : (FloatKind.f64.format.order y 0 != some .eq) = false := (by rw [order_cmp, hy.val, vZERO, HFIN.out]; rfl)) | ((refine wpList_fbin (o := ⟨some 24, _, _, _, _, _⟩) rfl _ _ _ _ _ rfl (by decide) _ _ _ rfl rfl ?_; intro f nf hf; rw [val_ofInt] at hf); have t0 : (FloatKind.f64.format.order f 0 == some .lt) = false := (by rw [order_cmp, hf.val, vZERO]; exact HB0.out); rw [← HF0.out, HF.out] at hf; have t1 : (FloatKind.f64.format.order f 4602678819172646912 == some .gt || FloatKind.f64.format.order f 4602678819172646912 == some .eq) = false := (by rw [order_cmp, hf.val, vHALF]; exact HB1.out); have t2 : (FloatKind.f64.format.order f 4598175219545276416 == some .gt) = false := (by rw [order_cmp, hf.val, vQUARTER]; exact HB2.out)) | (refine wpList_fbin (o := ⟨some 39, _, _, _, _, _⟩) rfl _ _ _ _ _ rfl (by decide) _ _ _ rfl rfl ?_; intro z nz hz; rw [hf.val, vTURN, ← HF2.out] at hz) | (refine wpList_fbin (o := ⟨some 42, _, _, _, _, _⟩) rfl _ _ _ _ _ rfl (by decide) _ _ _ rfl rfl ?_; intro u nu hu; rw [hz.val] at hu) | fail)
  go_loopw [7, 8] (fun p k wr => ∃ i : Nat, i ≤ 8 ∧ ∃ pb : Nat, p = .float .f64 pb ∧ k = .int .i64 (8 - (i : Int)) ∧ FR .f64 pb (sinP (bin .mul .f64 (sinZ F) (sinZ F)) i) ∧ ∃ n, wr = w.drewN n) (fun _ k _ => (intOf k).toNat)
  case atStart => exact ⟨0, by omega, _, rfl, rfl, ⟨by decide, vONE⟩, _, rfl⟩
  case round =>
    obtain ⟨i, hi, pb, rfl, rfl, hp, nw, rfl⟩ := hrel
    by_cases hlt : i < 8
    · have hb1 : (1 : Int) ≤ 8 - (i : Int) := by omega
      have hb8 : (8 : Int) - (i : Int) ≤ 8 := by omega
      go_wp2_with (first | (refine wpList_fbin (o := ⟨some 49, _, _, _, _, _⟩) rfl _ _ _ _ _ rfl (by decide) _ _ _ rfl rfl ?_; intro m nm hm; rw [hu.val, hp.val] at hm) | (refine wpList_fbin (o := ⟨some 57, _, _, _, _, _⟩) rfl _ _ _ _ _ rfl (by decide) _ _ _ rfl rfl ?_; intro q nq hq; rw [hm.val, val_ofInt, sin_wrap i hlt] at hq) | (refine wpList_fbin (o := ⟨some 58, _, _, _, _, _⟩) rfl _ _ _ _ _ rfl (by decide) _ _ _ rfl rfl ?_; intro r nr hr; rw [vONE, hq.val] at hr) | fail)
      go_roundw
      case rel => exact ⟨i + 1, by omega, _, rfl, by congr 1; omega, hr, _, rfl⟩
      case measure => simp [intOf]; omega
    · obtain rfl : i = 8 := by omega
      go_wp2_with (first | (refine wpList_fbin (o := ⟨some 66, _, _, _, _, _⟩) rfl _ _ _ _ _ rfl (by decide) _ _ _ rfl rfl ?_; intro q nq hq; rw [hz.val, hp.val] at hq) | fail)
      go_ret
      refine ⟨_, rfl, ?_, _, rfl⟩
      unfold sineV
      rw [if_neg (by rw [HB1.out]; decide)]
      exact hq

end Go.Proofs.Ytepilofcionekaa
namespace Go.Proofs.Ytepilofcionekaa
open Fl Ieee Go.RowKit
set_option linter.unusedVariables false

theorem math_Sqrt (x : Nat) (w : World) : Calls Try.prog 113 #[.float .f64 x] w fun e w' => ∃ r, e = .returned (.float .f64 r) ∧ FR .f64 r (sqrtV (val .f64 x)) ∧ ∃ n, w' = w.drewN n := by
  obtain ⟨r, n, hrun, hf⟩ := run_sqrt (P := Try.prog) x w
  go_enter Try.func113, Try.ntmps113
  go_wp2_with fail
  go_ret
  exact ⟨r, rfl, hf, n, rfl⟩

theorem narOk_root (x : Nat) : NarOk (sqrtV (wid (val .f32 x))) := by
  intro b hb
  rcases val_cases .f32 x with h | h
  · rw [h] at hb
    have hb' : double.sqrt (W x) = some b := hb
    have hnn := (nn_iff .f32 x).1 h
    rcases Nat.lt_or_ge (rung single x) single.infRung with h' | h'
    · have hW := W_fin h'
      have hle : mg double (rung double (W x)) ≤ mg single (single.infRung - 1) * 2 ^ 925 := by
        rw [hW.1]; exact Nat.mul_le_mul_right _ ((mg_le_iff single).2 (by omega))
      have hs := root_le 1074 (by decide) hW.2.2 hb' 4904418691351740416 (by
        refine Nat.le_trans (Nat.mul_le_mul_right _ (Nat.mul_le_mul_left _ hle)) ?_
        decide +kernel)
      have hok := NarOk.of_le (b := b) (Nat.le_trans ((mg_le_iff double).2 hs) (by decide +kernel))
      exact hok b rfl
    · have e : rung single x = single.infRung := by
        have : rung single x ≤ single.infRung := hnn
        omega
      left
      have hr := read_inf double (by decide) (W_inf e).1
      unfold Format.sqrt at hb'
      rw [hr] at hb'
      simp only [Datum.root] at hb'
      split at hb'
      · cases hb'
      · cases hb'
        exact rung_word double _ (Nat.le_refl _)
  · rw [h] at hb; cases hb

theorem impl_RootNumber (x : Nat) (hx : x < 4294967296) (w : World) : Calls Try.prog 87 #[.float .f32 x] w fun e w' => ∃ r, e = .returned (.float .f32 r) ∧ FR .f32 r (nar (sqrtV (wid (val .f32 x)))) ∧ ∃ n, w' = w.drewN n := by
  have hok := narOk_root x
  go_enter Try.func87, Try.ntmps87
  go_wp2_with (first | (refine wpList_widen rfl _ _ _ rfl _ rfl (by kernel_rfl) (by kernel_rfl) ?_; intro r1 n1 hr1) | (go_at_call 113; refine (math_Sqrt _ _).mono ?_; rintro e w' ⟨r2, rfl, hr2, n2, rfl⟩; rw [hr1.val] at hr2) | (refine wpList_narrow rfl _ _ _ rfl _ rfl (by kernel_rfl) (by kernel_rfl) (by rw [hr2.val]; exact hok) ?_; intro r3 n3 hr3))
  go_ret
  exact ⟨r3, rfl, by rw [hr2.val] at hr3; exact hr3, _, rfl⟩

theorem spec_l01Narrow (x : Nat) (hok : NarOk (val .f64 x)) (w : World) : Calls Try.prog 109 #[.float .f64 x] w fun e w' => ∃ r, e = .returned (.float .f32 r) ∧ FR .f32 r (nar (val .f64 x)) ∧ ∃ n, w' = w.drewN n := by
  go_enter Try.func109, Try.ntmps109
  go_wp2_with (refine wpList_narrow rfl _ _ _ rfl _ rfl (by kernel_rfl) (by kernel_rfl) hok ?_; intro r3 n3 hr3)
  go_ret
  exact ⟨r3, rfl, hr3, _, rfl⟩

theorem spec_l01Sqrt (x : Nat) (hx : x < 4294967296) (w : World) : Calls Try.prog 111 #[.float .f32 x] w fun e w' => ∃ r, e = .returned (.float .f32 r) ∧ FR .f32 r (nar (sqrtV (wid (val .f32 x)))) ∧ ∃ n, w' = w.drewN n := by
  have hok := narOk_root x
  go_enter Try.func111, Try.ntmps111
  go_wp2_with (first | (refine wpList_widen rfl _ _ _ rfl _ rfl (by kernel_rfl) (by kernel_rfl) ?_; intro r1 n1 hr1) | (go_at_call 113; refine (math_Sqrt _ _).mono ?_; rintro e w' ⟨r2, rfl, hr2, n2, rfl⟩; rw [hr1.val] at hr2) | (go_at_call 109; refine (spec_l01Narrow _ (by rw [hr2.val]; exact hok) _).mono ?_; rintro e w' ⟨r3, rfl, hr3, n3, rfl⟩))
  go_ret
  exact ⟨r3, rfl, by rw [hr2.val] at hr3; exact hr3, _, rfl⟩

end Go.Proofs.Ytepilofcionekaa
namespace Go.Proofs.Ytepilofcionekaa
open Fl Ieee Go.RowKit
set_option linter.unusedVariables false

/-- x - x, of a finite number: a zero; of an infinity: no number. -/
theorem sub_self (k : FloatKind) {x : Nat} (h : rung k.format x < k.format.infRung) : cmp k (bin .sub k (some x) (some x)) (some 0) = some .eq := by
  obtain ⟨r, hr, hn⟩ := near_sub k h h
  have hz : rung k.format r = 0 := by
    have := hn.le (s := 0) (by rw [Int.sub_self]; simp)
    omega
  rw [hr]
  show k.format.order r 0 = _
  have hi : 0 < k.format.infRung := by cases k <;> decide
  have h0 : rung k.format 0 = 0 := by unfold rung; simp
  rw [order_key k (by omega) (by omega)]
  have e1 : key k.format r = 0 := by unfold key; rw [hz]; split <;> rfl
  have e2 : key k.format 0 = 0 := by unfold key; rw [h0]; split <;> rfl
  rw [e1, e2]; rfl

theorem sub_inf (k : FloatKind) {x : Nat} (h : rung k.format x = k.format.infRung) : bin .sub k (some x) (some x) = none := by
  show (((k.format.read x).sum (k.format.read x).opposite).map k.format.write) = none
  rw [read_inf k.format (binade_le k) h]
  show (Option.map _ (if sgn k.format x = (!sgn k.format x) then _ else _)) = _
  rw [if_neg (by cases sgn k.format x <;> decide)]; rfl

theorem isFin_some {x : Nat} (h : val .f32 x = some x) : isFin (val .f32 x) = decide (rung single x < single.infRung) := by
  have hnn := (nn_iff .f32 x).1 h
  rw [h]
  unfold isFin
  rcases Nat.lt_or_ge (rung single x) single.infRung with h' | h'
  · rw [sub_self .f32 h', decide_eq_true h']; rfl
  · have e : rung single x = single.infRung := by
      have : rung single x ≤ single.infRung := hnn
      omega
    rw [sub_inf .f32 e, decide_eq_false (by omega)]; rfl

/-- The whole part of a value. -/
def wholeV (X : Option Nat) : Int := match X with | some b => (floatToIntVal .f64 b .i64).getD 0 | none => 0

/-- Is a value below 2^52? -/
def belowV (X : Option Nat) : Bool := match X with | some b => decide (rung double b < 4841369599423283200) | none => false

/-- The sine of a number of turns. -/
def sineTurnsV (X : Option Nat) : Option Nat :=
  if isFin X then (if belowV (wid X) then nar (sineV (fracV (wid X) (wholeV (wid X)))) else some 0) else none

theorem small_frac {x : Nat} (h : rung double x < 4841369599423283200) : ∃ n : Int, floatToIntVal .f64 x .i64 = some n ∧ Bd (bin .sub .f64 (some x) (some (floatOfInt .f64 n))) ONE := by
  obtain ⟨n, hn, r, hr, hle⟩ := frac_le 1074 (by decide) (b := x) (Nat.lt_trans h (by decide)) (by
    have := (mg_lt_iff double).2 h
    have e : mg double 4841369599423283200 = 2 ^ 52 * 2 ^ 1074 := by decide +kernel
    rw [← e]; exact this) ONE (by decide +kernel)
  exact ⟨n, hn, r, hr, hle⟩

theorem nan_val : val .f64 9221120237041090561 = none := by rw [val64, if_neg (by decide)]

theorem math_NaN (w : World) : Calls Try.prog 97 #[] w fun e w' => e = .returned (.float .f64 9221120237041090561) ∧ w' = w := by
  go_enter Try.func97, Try.ntmps97
  go_wp2
  go_ret
  exact ⟨rfl, rfl⟩

theorem FR_wid {x r : Nat} (hv : val .f32 x = some x) (hr : FR .f64 r (wid (val .f32 x))) : val .f64 r = some r ∧ r = W x := by
  have e := wid_some hv hr
  refine ⟨?_, e⟩
  rw [hr.val, hv, e]; rfl

/-- The test of the program: is the absolute value 2^52 or more? -/
theorem abs_geq {r : Nat} (hlt : r < 18446744073709551616) (hv : val .f64 r = some r) : (FloatKind.f64.format.order (r % 9223372036854775808) 4841369599423283200 == some .gt || FloatKind.f64.format.order (r % 9223372036854775808) 4841369599423283200 == some .eq) = !decide (rung double r < 4841369599423283200) := by
  have hnn := (nn_iff .f64 r).1 hv
  have hr1 : rung double (r % 9223372036854775808) = rung double r := by show r % 9223372036854775808 % 9223372036854775808 = r % 9223372036854775808; omega
  have hs : sgn double (r % 9223372036854775808) = false := by rw [(f64_split (by omega)).2]; simp; omega
  have hk : key double (r % 9223372036854775808) = (rung double r : Int) := by unfold key; rw [hs, hr1]; rfl
  have hkc : key double 4841369599423283200 = (4841369599423283200 : Int) := by decide
  rw [order_key .f64 (by show rung double _ ≤ double.infRung; rw [hr1]; exact hnn) (by decide)]
  show (some (compare (key double (r % 9223372036854775808)) (key double 4841369599423283200)) == some .gt || some (compare (key double (r % 9223372036854775808)) (key double 4841369599423283200)) == some .eq) = _
  rw [hk, hkc, Bool.eq_iff_iff]
  simp only [Bool.or_eq_true, beq_iff_eq, Option.some.injEq, Int.compare_eq_gt, Int.compare_eq_eq, Bool.not_eq_true', decide_eq_false_iff_not]
  omega

/-- The tests of the reference. -/
theorem hi_geq {r : Nat} (hv : val .f64 r = some r) : (FloatKind.f64.format.order r 4841369599423283200 == some .gt || FloatKind.f64.format.order r 4841369599423283200 == some .eq) = decide (sgn double r = false ∧ ¬ rung double r < 4841369599423283200) := by
  have hnn := (nn_iff .f64 r).1 hv
  have hkc : key double 4841369599423283200 = (4841369599423283200 : Int) := by decide
  rw [order_key .f64 hnn (by decide)]
  show (some (compare (key double r) (key double 4841369599423283200)) == some .gt || some (compare (key double r) (key double 4841369599423283200)) == some .eq) = _
  rw [hkc, Bool.eq_iff_iff]
  simp only [Bool.or_eq_true, beq_iff_eq, Option.some.injEq, Int.compare_eq_gt, Int.compare_eq_eq, decide_eq_true_eq]
  unfold key
  cases sgn double r <;> simp <;> omega

theorem lo_leq {r : Nat} (hv : val .f64 r = some r) : (FloatKind.f64.format.order r 14064741636278059008 == some .lt || FloatKind.f64.format.order r 14064741636278059008 == some .eq) = decide (sgn double r = true ∧ ¬ rung double r < 4841369599423283200) := by
  have hnn := (nn_iff .f64 r).1 hv
  have hkc : key double 14064741636278059008 = (-4841369599423283200 : Int) := by decide
  rw [order_key .f64 hnn (by decide)]
  show (some (compare (key double r) (key double 14064741636278059008)) == some .lt || some (compare (key double r) (key double 14064741636278059008)) == some .eq) = _
  rw [hkc, Bool.eq_iff_iff]
  simp only [Bool.or_eq_true, beq_iff_eq, Option.some.injEq, Int.compare_eq_lt, Int.compare_eq_eq, decide_eq_true_eq]
  unfold key
  cases sgn double r <;> simp <;> omega

theorem impl_SineTurns (x : Nat) (hx : x < 4294967296) (w : World) : Calls Try.prog 60 #[.float .f32 x] w fun e w' => ∃ r, e = .returned (.float .f32 r) ∧ FR .f32 r (sineTurnsV (val .f32 x)) ∧ ∃ n, w' = w.drewN n := by
  cases hf : isFin (val .f32 x)
  · have hgoal : sineTurnsV (val .f32 x) = none := by unfold sineTurnsV; rw [hf]; rfl
    have HG : Hid (sineTurnsV (val .f32 x) = none) := hgoal
    clear hgoal
    go_enter Try.func60, Try.ntmps60
    go_wp2_with (first | (go_at_call 96; refine (impl_IsFinite _ _).mono ?_; rintro e w' ⟨rfl, nf, rfl⟩) | (go_at_call 97; refine (math_NaN _).mono ?_; rintro e w' ⟨rfl, rfl⟩) | (refine wpList_narrow (o := ⟨some 7, _, _, _, _, _⟩) rfl _ _ _ rfl _ rfl (by kernel_rfl) (by kernel_rfl) (by rw [nan_val]; exact NarOk.none) ?_; intro r nr hr))
    go_ret
    refine ⟨r, rfl, ?_, _, rfl⟩
    rw [nan_val] at hr
    rw [HG.out]; exact hr
  · have hv : val .f32 x = some x := by
      rcases val_cases .f32 x with h | h
      · exact h
      · rw [h] at hf; exact absurd hf (by decide)
    have Hv : Hid (val .f32 x = some x) := hv
    cases hb : belowV (wid (val .f32 x))
    · have hgoal : sineTurnsV (val .f32 x) = some 0 := by unfold sineTurnsV; rw [hf, hb]; rfl
      have HG : Hid (sineTurnsV (val .f32 x) = some 0) := hgoal
      have HB : Hid (belowV (wid (val .f32 x)) = false) := hb
      clear hgoal hv hb
      go_enter Try.func60, Try.ntmps60
      go_wp2_with (first | (go_at_call 96; refine (impl_IsFinite _ _).mono ?_; rintro e w' ⟨rfl, nf, rfl⟩) | ((refine wpList_widen (o := ⟨some 9, _, _, _, _, _⟩) rfl _ _ _ rfl _ rfl (by kernel_rfl) (by kernel_rfl) ?_; intro y ny hy); have hlt : y < 18446744073709551616 := hy.lt; have ht : (FloatKind.f64.format.order (y % 9223372036854775808) 4841369599423283200 == some .gt || FloatKind.f64.format.order (y % 9223372036854775808) 4841369599423283200 == some .eq) = true := (by have hb := HB.out; rw [← hy.val, (FR_wid Hv.out hy).1] at hb; rw [abs_geq hlt (FR_wid Hv.out hy).1]; simp only [belowV] at hb; rw [hb]; rfl)) | (go_at_call 98; refine (math_Abs _ hlt _).mono ?_; rintro e w' ⟨rfl, rfl⟩))
      go_ret
      exact ⟨0, rfl, by rw [HG.out]; exact ⟨by decide, by rw [val32, if_pos (by decide)]⟩, _, rfl⟩
    · have hw : wid (val .f32 x) = some (W x) := by rw [hv]; rfl
      have hsm : rung double (W x) < 4841369599423283200 := by rw [hw] at hb; simpa [belowV] using hb
      obtain ⟨n, hn, hbd⟩ := small_frac hsm
      have hgoal : sineTurnsV (val .f32 x) = nar (sineV (fracV (wid (val .f32 x)) n)) := by
        unfold sineTurnsV; rw [hf, hb, if_pos rfl, if_pos rfl, hw]; simp only [wholeV]; rw [hn]; rfl
      have hok : NarOk (sineV (fracV (wid (val .f32 x)) n)) := by rw [hw]; exact sineV_ok (frac_bd hbd)
      have HG : Hid (sineTurnsV (val .f32 x) = nar (sineV (fracV (wid (val .f32 x)) n))) := hgoal
      have HB : Hid (rung double (W x) < 4841369599423283200) := hsm
      have HN : Hid (floatToIntVal .f64 (W x) .i64 = some n) := hn
      clear hgoal hv hb hw hsm hn hbd
      go_enter Try.func60, Try.ntmps60
      go_wp2_with (first | (go_at_call 96; refine (impl_IsFinite _ _).mono ?_; rintro e w' ⟨rfl, nf, rfl⟩) | ((refine wpList_widen (o := ⟨some 9, _, _, _, _, _⟩) rfl _ _ _ rfl _ rfl (by kernel_rfl) (by kernel_rfl) ?_; intro y ny hy); have hlt : y < 18446744073709551616 := hy.lt; have ht : (FloatKind.f64.format.order (y % 9223372036854775808) 4841369599423283200 == some .gt || FloatKind.f64.format.order (y % 9223372036854775808) 4841369599423283200 == some .eq) = false := (by rw [abs_geq hlt (FR_wid Hv.out hy).1, (FR_wid Hv.out hy).2, decide_eq_true HB.out]; rfl)) | (go_at_call 98; refine (math_Abs _ hlt _).mono ?_; rintro e w' ⟨rfl, rfl⟩) | (refine wpList_widen (o := ⟨some 13, _, _, _, _, _⟩) rfl _ _ _ rfl _ rfl (by kernel_rfl) (by kernel_rfl) ?_; intro z nz hz) | (go_at_call 99; refine (impl_sine _ n (by rw [(FR_wid Hv.out hz).2]; exact HN.out) _).mono ?_; rintro e w' ⟨s, rfl, hs, ns, rfl⟩; rw [hz.val] at hs) | (refine wpList_narrow (o := ⟨some 15, _, _, _, _, _⟩) rfl _ _ _ rfl _ rfl (by kernel_rfl) (by kernel_rfl) (by rw [hs.val]; exact hok) ?_; intro r nr hr))
      go_ret
      refine ⟨r, rfl, ?_, _, rfl⟩
      rw [hs.val] at hr
      rw [HG.out]; exact hr

theorem spec_sine (x : Nat) (n : Int) (hn : floatToIntVal .f64 x .i64 = some n) (hfin : cmp .f64 (bin .sub .f64 (val .f64 x) (val .f64 x)) (some 0) = some .eq) (hhi : (FloatKind.f64.format.order x 4841369599423283200 == some .gt || FloatKind.f64.format.order x 4841369599423283200 == some .eq) = false) (hlo : (FloatKind.f64.format.order x 14064741636278059008 == some .lt || FloatKind.f64.format.order x 14064741636278059008 == some .eq) = false) (w : World) :
    Calls Try.prog 110 #[.float .f64 x] w fun e w' => ∃ r, e = .returned (.float .f64 r) ∧ FR .f64 r (sineV (fracV (val .f64 x) n)) ∧ ∃ n, w' = w.drewN n := by
  cases b0 : ltV (bin .sub .f64 (val .f64 x) (some (floatOfInt .f64 n))) (some 0) <;> cases b1 : geqV (fracV (val .f64 x) n) (some HALF) <;> cases b2 : gtV (fold1 (fracV (val .f64 x) n)) (some QUARTER)
  · exact spec_sine_000 x n hn hfin hhi hlo _ rfl b1 b2 b0 w
  · exact spec_sine_001 x n hn hfin hhi hlo _ rfl b1 b2 b0 w
  · exact spec_sine_010 x n hn hfin hhi hlo _ rfl b1 b2 b0 w
  · exact spec_sine_011 x n hn hfin hhi hlo _ rfl b1 b2 b0 w
  · exact spec_sine_100 x n hn hfin hhi hlo _ rfl b1 b2 b0 w
  · exact spec_sine_101 x n hn hfin hhi hlo _ rfl b1 b2 b0 w
  · exact spec_sine_110 x n hn hfin hhi hlo _ rfl b1 b2 b0 w
  · exact spec_sine_111 x n hn hfin hhi hlo _ rfl b1 b2 b0 w

theorem spec_sine_nan (x : Nat) (hfin : (cmp .f64 (bin .sub .f64 (val .f64 x) (val .f64 x)) (some 0) != some .eq) = true) (w : World) :
    Calls Try.prog 110 #[.float .f64 x] w fun e w' => ∃ r, e = .returned (.float .f64 r) ∧ FR .f64 r none ∧ ∃ n, w' = w.drewN n := by
  have HFIN : Hid ((cmp .f64 (bin .sub .f64 (val .f64 x) (val .f64 x)) (some 0) != some .eq) = true) := hfin
  clear hfin
  go_enter Try.func110, Try.ntmps110
  go_wp2_with (first | ((refine wpList_fbin (o := ⟨some 11, _, _, _, _, _⟩) rfl _ _ _ _ _ rfl (by decide) _ _ _ rfl rfl ?_; intro y ny hy); have ty : (FloatKind.f64.format.order y 0 != some .eq) = true := (by rw [order_cmp, hy.val, vZERO]; exact HFIN.out)) | (go_at_call 97; refine (math_NaN _).mono ?_; rintro e w' ⟨rfl, rfl⟩) | fail)
  go_ret
  exact ⟨_, rfl, ⟨by decide, nan_val⟩, _, rfl⟩

theorem spec_sine_big (x : Nat) (hfin : cmp .f64 (bin .sub .f64 (val .f64 x) (val .f64 x)) (some 0) = some .eq) (h : (FloatKind.f64.format.order x 4841369599423283200 == some .gt || FloatKind.f64.format.order x 4841369599423283200 == some .eq) = true ∨ ((FloatKind.f64.format.order x 4841369599423283200 == some .gt || FloatKind.f64.format.order x 4841369599423283200 == some .eq) = false ∧ (FloatKind.f64.format.order x 14064741636278059008 == some .lt || FloatKind.f64.format.order x 14064741636278059008 == some .eq) = true)) (w : World) :
    Calls Try.prog 110 #[.float .f64 x] w fun e w' => ∃ r, e = .returned (.float .f64 r) ∧ FR .f64 r (some 0) ∧ ∃ n, w' = w.drewN n := by
  have HFIN : Hid (cmp .f64 (bin .sub .f64 (val .f64 x) (val .f64 x)) (some 0) = some .eq) := hfin
  clear hfin
  rcases h with h | ⟨h, h'⟩
  · go_enter Try.func110, Try.ntmps110
    go_wp2_with (first | ((refine wpList_fbin (o := ⟨some 11, _, _, _, _, _⟩) rfl _ _ _ _ _ rfl (by decide) _ _ _ rfl rfl ?_; intro y ny hy); have ty : (FloatKind.f64.format.order y 0 != some .eq) = false := (by rw [order_cmp, hy.val, vZERO, HFIN.out]; rfl)) | fail)
    go_ret
    exact ⟨0, rfl, ⟨by decide, vZERO⟩, _, rfl⟩
  · go_enter Try.func110, Try.ntmps110
    go_wp2_with (first | ((refine wpList_fbin (o := ⟨some 11, _, _, _, _, _⟩) rfl _ _ _ _ _ rfl (by decide) _ _ _ rfl rfl ?_; intro y ny hy); have ty : (FloatKind.f64.format.order y 0 != some .eq) = false := (by rw [order_cmp, hy.val, vZERO, HFIN.out]; rfl)) | fail)
    go_ret
    exact ⟨0, rfl, ⟨by decide, vZERO⟩, _, rfl⟩

theorem nar_zero : NarOk (some 0) ∧ nar (some 0) = some 0 := ⟨NarOk.of_le (by decide +kernel), by show some (N 0) = some 0; rw [show N 0 = 0 by decide +kernel]⟩

theorem spec_l01Sine (x : Nat) (hx : x < 4294967296) (w : World) : Calls Try.prog 83 #[.float .f32 x] w fun e w' => ∃ r, e = .returned (.float .f32 r) ∧ FR .f32 r (sineTurnsV (val .f32 x)) ∧ ∃ n, w' = w.drewN n := by
  rcases val_cases .f32 x with hv | hv
  · have hfs := isFin_some hv
    have hnn := (nn_iff .f32 x).1 hv
    have Hv : Hid (val .f32 x = some x) := hv
    by_cases hfin : rung single x < single.infRung
    · rw [decide_eq_true hfin] at hfs
      have hWf := (W_fin hfin).2.2
      by_cases hsm : rung double (W x) < 4841369599423283200
      · obtain ⟨n, hn, hbd⟩ := small_frac hsm
        have hw : wid (val .f32 x) = some (W x) := by rw [hv]; rfl
        have hgoal : sineTurnsV (val .f32 x) = nar (sineV (fracV (wid (val .f32 x)) n)) := by
          have hb : belowV (wid (val .f32 x)) = true := by rw [hw]; simp only [belowV]; exact decide_eq_true hsm
          unfold sineTurnsV; rw [hfs, hb, if_pos rfl, if_pos rfl, hw]; simp only [wholeV]; rw [hn]; rfl
        have hok : NarOk (sineV (fracV (wid (val .f32 x)) n)) := by rw [hw]; exact sineV_ok (frac_bd hbd)
        have HG : Hid (sineTurnsV (val .f32 x) = nar (sineV (fracV (wid (val .f32 x)) n))) := hgoal
        have HB : Hid (rung double (W x) < 4841369599423283200) := hsm
        have HN : Hid (floatToIntVal .f64 (W x) .i64 = some n) := hn
        have HF : Hid (rung double (W x) < double.infRung) := hWf
        clear hgoal hv hw hsm hn hbd hfs hWf hfin
        go_enter Try.func83, Try.ntmps83
        go_wp2_with (first | (refine wpList_widen (o := ⟨some 4, _, _, _, _, _⟩) rfl _ _ _ rfl _ rfl (by kernel_rfl) (by kernel_rfl) ?_; intro z nz hz) | (go_at_call 110; refine (spec_sine _ n (by rw [(FR_wid Hv.out hz).2]; exact HN.out) (by rw [(FR_wid Hv.out hz).1, (FR_wid Hv.out hz).2]; exact sub_self .f64 HF.out) (by rw [hi_geq (FR_wid Hv.out hz).1, (FR_wid Hv.out hz).2]; exact decide_eq_false (fun h => h.2 HB.out)) (by rw [lo_leq (FR_wid Hv.out hz).1, (FR_wid Hv.out hz).2]; exact decide_eq_false (fun h => h.2 HB.out)) _).mono ?_; rintro e w' ⟨s, rfl, hs, ns, rfl⟩; rw [hz.val] at hs) | (go_at_call 109; refine (spec_l01Narrow _ (by rw [hs.val]; exact hok) _).mono ?_; rintro e w' ⟨r, rfl, hr, nr, rfl⟩))
        go_ret
        refine ⟨r, rfl, ?_, _, rfl⟩
        rw [hs.val] at hr
        rw [HG.out]; exact hr
      · have hgoal : sineTurnsV (val .f32 x) = some 0 := by
          have hw : wid (val .f32 x) = some (W x) := by rw [hv]; rfl
          have hb : belowV (wid (val .f32 x)) = false := by rw [hw]; simp only [belowV]; exact decide_eq_false hsm
          unfold sineTurnsV; rw [hfs, hb]; rfl
        have HG : Hid (sineTurnsV (val .f32 x) = some 0) := hgoal
        have HB : Hid (¬ rung double (W x) < 4841369599423283200) := hsm
        have HF : Hid (rung double (W x) < double.infRung) := hWf
        clear hgoal hv hsm hfs hWf hfin
        go_enter Try.func83, Try.ntmps83
        go_wp2_with (first | (refine wpList_widen (o := ⟨some 4, _, _, _, _, _⟩) rfl _ _ _ rfl _ rfl (by kernel_rfl) (by kernel_rfl) ?_; intro z nz hz) | (go_at_call 110; refine (spec_sine_big _ (by rw [(FR_wid Hv.out hz).1, (FR_wid Hv.out hz).2]; exact sub_self .f64 HF.out) (by rw [hi_geq (FR_wid Hv.out hz).1, lo_leq (FR_wid Hv.out hz).1, (FR_wid Hv.out hz).2]; have := HB.out; cases sgn double (W x) <;> simp [this]) _).mono ?_; rintro e w' ⟨s, rfl, hs, ns, rfl⟩) | (go_at_call 109; refine (spec_l01Narrow _ (by rw [hs.val]; exact nar_zero.1) _).mono ?_; rintro e w' ⟨r, rfl, hr, nr, rfl⟩))
        go_ret
        refine ⟨r, rfl, ?_, _, rfl⟩
        rw [hs.val, nar_zero.2] at hr
        rw [HG.out]; exact hr
    · have hinf : rung single x = single.infRung := by
        have : rung single x ≤ single.infRung := hnn
        omega
      have hgoal : sineTurnsV (val .f32 x) = none := by unfold sineTurnsV; rw [hfs, decide_eq_false hfin]; rfl
      have HG : Hid (sineTurnsV (val .f32 x) = none) := hgoal
      have HI : Hid (rung double (W x) = double.infRung) := (W_inf hinf).1
      clear hgoal hv hfs hfin hinf
      go_enter Try.func83, Try.ntmps83
      go_wp2_with (first | (refine wpList_widen (o := ⟨some 4, _, _, _, _, _⟩) rfl _ _ _ rfl _ rfl (by kernel_rfl) (by kernel_rfl) ?_; intro z nz hz) | (go_at_call 110; refine (spec_sine_nan _ (by rw [(FR_wid Hv.out hz).1, (FR_wid Hv.out hz).2, sub_inf .f64 HI.out]; rfl) _).mono ?_; rintro e w' ⟨s, rfl, hs, ns, rfl⟩) | (go_at_call 109; refine (spec_l01Narrow _ (by rw [hs.val]; exact NarOk.none) _).mono ?_; rintro e w' ⟨r, rfl, hr, nr, rfl⟩))
      go_ret
      refine ⟨r, rfl, ?_, _, rfl⟩
      rw [hs.val] at hr
      rw [HG.out]; exact hr
  · have hgoal : sineTurnsV (val .f32 x) = none := by rw [hv]; rfl
    have HG : Hid (sineTurnsV (val .f32 x) = none) := hgoal
    have Hv : Hid (val .f32 x = none) := hv
    clear hgoal hv
    go_enter Try.func83, Try.ntmps83
    go_wp2_with (first | (refine wpList_widen (o := ⟨some 4, _, _, _, _, _⟩) rfl _ _ _ rfl _ rfl (by kernel_rfl) (by kernel_rfl) ?_; intro z nz hz) | (go_at_call 110; refine (spec_sine_nan _ (by rw [hz.val, Hv.out]; rfl) _).mono ?_; rintro e w' ⟨s, rfl, hs, ns, rfl⟩) | (go_at_call 109; refine (spec_l01Narrow _ (by rw [hs.val]; exact NarOk.none) _).mono ?_; rintro e w' ⟨r, rfl, hr, nr, rfl⟩))
    go_ret
    refine ⟨r, rfl, ?_, _, rfl⟩
    rw [hs.val] at hr
    rw [HG.out]; exact hr

end Go.Proofs.Ytepilofcionekaa
namespace Go.Proofs.Ytepilofcionekaa
open Fl Go.RowKit Go.Proofs.YtepilofcionekaaW.PrintWords Go.Proofs.YtepilofcionekaaW.PrintLast Go.Proofs.YtepilofcionekaaW.PrintMore Go.Proofs.Ytepilofcionekaa.PMesh Msh
set_option linter.unusedVariables false
set_option linter.unusedSimpArgs false

/-- A place of a ring of m sides. -/
def rptV (v0 v1 m k : Nat) : S42 := ⟨canB (bin .mul .f32 (val .f32 v0) (sineTurnsV (bin .add .f32 (bin .quo .f32 (val .f32 (floatOfInt .f32 ((k % m : Nat) : Int))) (val .f32 (floatOfInt .f32 (m : Int)))) (val .f32 1048576000)))), canB (bin .mul .f32 (val .f32 v0) (sineTurnsV (bin .quo .f32 (val .f32 (floatOfInt .f32 ((k % m : Nat) : Int))) (val .f32 (floatOfInt .f32 (m : Int)))))), canB (bin .mul .f32 (val .f32 (floatOfInt .f32 ((k / m : Nat) : Int))) (val .f32 v1))⟩
def ringP (W H v0 v1 : Nat) : List S42 := (List.range ((H + 1) * W)).map (rptV v0 v1 W)
def triD (m x y : Nat) : List Int := [(x : Int) + (m : Int) * (y : Int), (((x + 1) % m : Nat) : Int) + (m : Int) * (y : Int), (((x + 1) % m : Nat) : Int) + (m : Int) * (y : Int) + (m : Int)]
def triE (m x y : Nat) : List Int := [(x : Int) + (m : Int) * (y : Int), (((x + 1) % m : Nat) : Int) + (m : Int) * (y : Int) + (m : Int), (x : Int) + (m : Int) * (y : Int) + (m : Int)]
def ringTn (m n : Nat) : List (List Int) := (List.range n).flatMap fun k => [triD m (k % m) (k / m), triE m (k % m) (k / m)]
def ringT (W H : Nat) : List (List Int) := ringTn W (H * W)
theorem ringTn_succ (m n : Nat) : ringTn m (n + 1) = ringTn m n ++ [triD m (n % m) (n / m), triE m (n % m) (n / m)] := by unfold ringTn; rw [List.range_succ, List.flatMap_append]; simp
theorem ringTn_len (m n : Nat) : (ringTn m n).length = 2 * n := by
  induction n with
  | zero => rfl
  | succ n ih => rw [ringTn_succ, List.length_append, ih]; simp; omega
theorem ringTn_step (m x y : Nat) (hx : x < m) : ringTn m (y * m + (x + 1)) = ringTn m (y * m + x) ++ [triD m x y, triE m x y] := by
  have e1 : (y * m + x) % m = x := by rw [Nat.add_comm, Nat.add_mul_mod_self_right, Nat.mod_eq_of_lt hx]
  have e2 : (y * m + x) / m = y := by rw [Nat.add_comm, Nat.add_mul_div_right _ _ (by omega), Nat.div_eq_of_lt hx, Nat.zero_add]
  rw [show y * m + (x + 1) = (y * m + x) + 1 from rfl, ringTn_succ, e1, e2]
/-- Whether a ring is tried. -/
def ringOk (a0 a1 : Int) (v0 v1 : Nat) : Bool := decide (3 ≤ a0 ∧ a0 ≤ 16) && decide (1 ≤ a1 ∧ a1 ≤ 64) && G8.sizeB v0 && G8.sizeB v1
/-- What RingMesh answers. -/
def ringR (a0 a1 : Int) (v0 v1 : Nat) : List S42 × List (List Int) × Bool := if ringOk a0 a1 v0 v1 = true then joinV (ringP a0.toNat a1.toNat v0 v1) (ringT a0.toNat a1.toNat) else ([], [], false)
theorem ring_small (a0 a1 : Int) (v0 v1 : Nat) : (ringR a0 a1 v0 v1).1.length ≤ 1048576 ∧ (ringR a0 a1 v0 v1).2.1.length ≤ 1048576 ∧ ∀ t ∈ (ringR a0 a1 v0 v1).2.1, t.length ≤ 1048576 := by
  unfold ringR joinV
  split
  · split
    · rename_i hv
      obtain ⟨v1, v2, v3⟩ := valid_rows hv
      exact ⟨by show (ringP _ _ _ _).length ≤ _; omega, by show (ringT _ _).length ≤ _; omega, fun t ht => by have := v3 t ht; omega⟩
    · exact ⟨by simp, by simp, by simp⟩
  · exact ⟨by simp, by simp, by simp⟩
/-- n places of a ring, up to what no law sees. -/
def PR (v0 v1 m n : Nat) (l : List S42) : Prop := simP l ((List.range n).map (rptV v0 v1 m))
theorem PR.len {v0 v1 m n : Nat} {l : List S42} (h : PR v0 v1 m n l) : l.length = n := by have := h.1; rwa [List.length_map, List.length_range] at this
theorem PR.zero (v0 v1 m : Nat) : PR v0 v1 m 0 [] := simP_nil
theorem PR.row {v0 v1 m y : Nat} {l : List S42} (h : PR v0 v1 m (y * m + m) l) : PR v0 v1 m ((y + 1) * m) l := by rwa [Nat.succ_mul]
theorem PR.step {v0 v1 m x y : Nat} {l : List S42} (h : PR v0 v1 m (y * m + x) l) (hx : x < m) {p q r : Nat} (hp : FR .f32 p (bin .mul .f32 (val .f32 v0) (sineTurnsV (bin .add .f32 (bin .quo .f32 (val .f32 (floatOfInt .f32 (x : Int))) (val .f32 (floatOfInt .f32 (m : Int)))) (val .f32 1048576000))))) (hq : FR .f32 q (bin .mul .f32 (val .f32 v0) (sineTurnsV (bin .quo .f32 (val .f32 (floatOfInt .f32 (x : Int))) (val .f32 (floatOfInt .f32 (m : Int))))))) (hr : FR .f32 r (bin .mul .f32 (val .f32 (floatOfInt .f32 (y : Int))) (val .f32 v1))) : PR v0 v1 m (y * m + (x + 1)) (l ++ [⟨p, q, r⟩]) := by
  have e1 : (y * m + x) % m = x := by rw [Nat.add_comm, Nat.add_mul_mod_self_right, Nat.mod_eq_of_lt hx]
  have e2 : (y * m + x) / m = y := by rw [Nat.add_comm, Nat.add_mul_div_right _ _ (by omega), Nat.div_eq_of_lt hx, Nat.zero_add]
  unfold PR
  rw [show y * m + (x + 1) = (y * m + x) + 1 from rfl, List.range_succ, List.map_append, List.map_singleton]
  refine simP_append h (simP_one ?_)
  unfold rptV
  rw [e1, e2]
  exact ⟨canB_sim hp, canB_sim hq, canB_sim hr⟩
theorem tmod_nat (x m : Nat) : Int.tmod ((x : Int) + 1) (m : Int) = (((x + 1) % m : Nat) : Int) := rfl
theorem bounds_g (x lo hi : Int) : impl_within.f x lo hi = some (decide (lo ≤ x ∧ x ≤ hi)) := by
  unfold impl_within.f
  by_cases h : lo ≤ x
  · rw [if_pos h]; simp [h]
  · rw [if_neg h]; simp [h]
section
variable {P : Program} {ops : Array Oper} {Q : Exit → Act → World → Prop} {K : Act → World → Prop}
/-- An operation on floats, as a step of a region that draws. -/
theorem fbin_step {oi : Oper} {N : Option Tmp} {a : Act} {w : World} (hw : Region.wanted oi (yielded ops a.tmps) = true) (hN : oi.dst = N) (op : BinOp) (t t' : TypeId) (x y : Operand) (ho : oi.op = .binOp op t x y t')
    (hop : op = .add ∨ op = .sub ∨ op = .mul ∨ op = .quo) (bx bz : Nat) (hx : a.eval x = .float .f32 bx) (hy : a.eval y = .float .f32 bz)
    (h : ∀ r n, FR .f32 r (bin op .f32 (val .f32 bx) (val .f32 bz)) → K (a.put N (.float .f32 r)) (w.drewN n)) : if Region.wanted oi (yielded ops a.tmps) = true then Oper.wp P oi a w K Q else K (a.put N undef) w := by
  obtain ⟨r, n, hr, hf⟩ := run_arith (P := P) op hop t .f32 bx bz w
  refine value_ (v := .float .f32 r) (w1 := w.drewN n) hw hN ?_ (h r n hf)
  unfold execOp
  rw [ho]
  simp only [hx, hy]
  have hq := run_float_guard (P := P) op t x y .f32 bx bz w
  simp [hq, hr]
end
end Go.Proofs.Ytepilofcionekaa
