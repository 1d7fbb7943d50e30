/-
  The proof's texts, one behind the other: XM1 XM2 XM7 XOpen XMopen.
-/
import Derived.Test.YtlendjpmblapkaaFw
import Derived.Test.YtlendjpmblapkaaPMeshx3
import Derived.Test.YtlendjpmblapkaaPMeshx7
import Derived.Test.YtlendjpmblapkaaPMeshx11
import Derived.Test.YtlendjpmblapkaaPMeshx17
import Derived.Test.YtlendjpmblapkaaPMeshx21
import Derived.Test.YtlendjpmblapkaaPMeshx27
import Derived.Test.YtlendjpmblapkaaG7
import Derived.Test.YtlendjpmblapkaaPMeshx30
import Derived.Test.YtlendjpmblapkaaPMeshx33
import Derived.Laws.Cover2
import Derived.ProofKit
import Derived.WalkKit
import Derived.OpenShut
import Derived.Lib.SmallJoins
import Derived.Deep.Slices
import Derived.ChangeSame
namespace Go.Proofs.Ytlendjpmblapkaa.Msh
open Fl Go.RowKit Go.Proofs.YtlendjpmblapkaaW.PrintWords Go.Proofs.Ytlendjpmblapkaa.PMesh
set_option linter.unusedVariables false
set_option linter.unusedSimpArgs false

theorem wrap_fit {x : Int} (h0 : -9223372036854775808 ≤ x) (h1 : x ≤ 9223372036854775807) : wrap64 x = x := by unfold wrap64; omega

theorem rdI (l : List Int) (i : Nat) (h : i < l.length) : rd l (i : Int) = l[i] := by
  unfold rd
  rw [Int.toNat_natCast, List.getD_eq_getElem?_getD, List.getElem?_eq_getElem h]; rfl
theorem rdL (l : List (List Int)) (i : Nat) (h : i < l.length) : rd_L3 l (i : Int) = l[i] := by
  unfold rd_L3
  rw [Int.toNat_natCast, List.getD_eq_getElem?_getD, List.getElem?_eq_getElem h]; rfl
theorem rdV (l : List S46) (i : Nat) (h : i < l.length) : rd_T46 l (i : Int) = l[i] := by
  unfold rd_T46
  rw [Int.toNat_natCast, List.getD_eq_getElem?_getD, List.getElem?_eq_getElem h]; rfl
theorem rdW (l : List S75) (i : Nat) (h : i < l.length) : rd_T75 l (i : Int) = l[i] := by
  unfold rd_T75
  rw [Int.toNat_natCast, List.getD_eq_getElem?_getD, List.getElem?_eq_getElem h]; rfl

theorem up (i : Nat) (h : i ≤ 9223372036854775806) : wrap64 ((i : Int) + 1) = ((i + 1 : Nat) : Int) := by rw [wrap_fit (by omega) (by omega)]; omega

/-! sizes -/
theorem sz_loop (T : List (List Int)) (hr : ∀ t ∈ T, t.length ≤ 9223372036854775807) (hT : T.length ≤ 1048576) (d : Nat) : ∀ (k i : Nat) (a : Int), i ≤ T.length → T.length - i = d → d < k → 0 ≤ a → a ≤ 1048576 →
    ∃ r, laws_szInt64SS.l0 k T a (i : Int) = some r ∧ r ≤ 1048576 ∧ (0 ≤ r → ∀ j, i ≤ j → (h : j < T.length) → T[j].length ≤ 1048576) := by
  induction d with
  | zero =>
    intro k i a hi hd hk h0 h1
    obtain ⟨k, rfl⟩ : ∃ j, k = j + 1 := ⟨k - 1, by omega⟩
    simp only [laws_szInt64SS.l0]
    rw [if_neg (by omega)]
    exact ⟨a, rfl, h1, fun _ j hij hj => by omega⟩
  | succ d ih =>
    intro k i a hi hd hk h0 h1
    obtain ⟨k, rfl⟩ : ∃ j, k = j + 1 := ⟨k - 1, by omega⟩
    have hlt : i < T.length := by omega
    have hl := hr T[i] (List.getElem_mem hlt)
    simp only [laws_szInt64SS.l0]
    rw [if_pos (by omega), if_pos (by omega), rdL T i hlt]
    unfold laws_szInt64S.f
    rw [wrap_fit (by omega) (by omega)]
    by_cases hneg : a - (T[i].length : Int) < 0
    · rw [if_pos hneg]
      simp only [Option.bind_some]
      rw [if_pos (by decide)]
      exact ⟨-1, rfl, by decide, fun h => by omega⟩
    · rw [if_neg hneg]
      simp only [Option.bind_some]
      rw [if_neg hneg, up i (by omega)]
      obtain ⟨r, e, hr1, h⟩ := ih k (i + 1) (a - (T[i].length : Int)) (by omega) (by omega) (by omega) (by omega) (by omega)
      refine ⟨r, e, hr1, fun h0 j hij hj => ?_⟩
      rcases Nat.lt_or_ge i j with hlt' | hge
      · exact h h0 j hlt' hj
      · obtain rfl : i = j := by omega
        omega

theorem szMesh_f (Pl : List S75) (T : List (List Int)) (hP : Pl.length ≤ 9223372036854775807) (hT : T.length ≤ 9223372036854775807) (hr : ∀ t ∈ T, t.length ≤ 9223372036854775807) (k : Nat) (hk : 1048577 < k) (a : Int) (ha : 0 ≤ a) (ha1 : a ≤ 1048576) :
    ∃ r, laws_szMesh.f k Pl T a = some r ∧ r ≤ 1048576 ∧ (0 ≤ r → Pl.length ≤ 1048576 ∧ T.length ≤ 1048576 ∧ ∀ t ∈ T, t.length ≤ 1048576) := by
  unfold laws_szMesh.f laws_szVectorS.f
  rw [wrap_fit (by omega) (by omega)]
  by_cases h1 : a - (Pl.length : Int) < 0
  · rw [if_pos h1]
    simp only [Option.bind_some]
    rw [if_pos (by decide)]
    exact ⟨-1, rfl, by decide, fun h => by omega⟩
  · rw [if_neg h1]
    simp only [Option.bind_some]
    rw [if_neg h1]
    unfold laws_szInt64SS.f
    rw [wrap_fit (by omega) (by omega)]
    by_cases h2 : a - (Pl.length : Int) - (T.length : Int) < 0
    · rw [if_pos h2]
      simp only [Option.bind_some]
      rw [if_pos (by decide)]
      exact ⟨-1, rfl, by decide, fun h => by omega⟩
    · rw [if_neg h2]
      obtain ⟨r, e, hr1, h⟩ := sz_loop T hr (by omega) T.length k 0 _ (by omega) (by omega) (by omega) (Int.not_lt.1 h2) (by omega)
      rw [show ((0 : Nat) : Int) = 0 from rfl] at e
      rw [e]
      simp only [Option.bind_some]
      by_cases h3 : r < 0
      · rw [if_pos h3]
        exact ⟨-1, rfl, by decide, fun h => by omega⟩
      · rw [if_neg h3]
        refine ⟨r, rfl, hr1, fun h0 => ⟨by omega, by omega, fun t ht => ?_⟩⟩
        obtain ⟨j, hj, rfl⟩ := List.getElem_of_mem ht
        exact h h0 j (by omega) hj

/-! copies -/
def toV (x : S75) : S46 := ⟨x.f0, x.f1, x.f2⟩

theorem toI_loop (l : List Int) (hl : l.length ≤ 1048576) (d : Nat) : ∀ (k i : Nat) (out : List Int), i ≤ l.length → l.length - i = d → d < k → out.length = l.length → (∀ j, j < i → out[j]? = l[j]?) → laws_toInt64S.l0 k l out (i : Int) = some l := by
  induction d with
  | zero =>
    intro k i out hi hd hk ho hj
    obtain ⟨k, rfl⟩ : ∃ j, k = j + 1 := ⟨k - 1, by omega⟩
    simp only [laws_toInt64S.l0]
    rw [if_neg (by omega)]
    congr 1
    apply List.ext_getElem?
    intro j
    rcases Nat.lt_or_ge j i with h | h
    · exact hj j h
    · rw [List.getElem?_eq_none (by omega), List.getElem?_eq_none (by omega)]
  | succ d ih =>
    intro k i out hi hd hk ho hj
    obtain ⟨k, rfl⟩ : ∃ j, k = j + 1 := ⟨k - 1, by omega⟩
    have hil : i < l.length := by omega
    simp only [laws_toInt64S.l0]
    rw [if_pos (by omega), if_pos (by omega), if_pos (by omega), rdI l i hil, up i (by omega), Int.toNat_natCast]
    refine ih k (i + 1) _ (by omega) (by omega) (by omega) (by rw [List.length_set]; exact ho) (fun j hji => ?_)
    by_cases e : j = i
    · subst e; rw [List.getElem?_set_self (by omega), List.getElem?_eq_getElem hil]
    · rw [List.getElem?_set_ne (by omega)]; exact hj j (by omega)

theorem toI_f (l : List Int) (hl : l.length ≤ 1048576) (k : Nat) (hk : 1048577 < k) : laws_toInt64S.f k l = some l := by
  unfold laws_toInt64S.f
  rw [if_pos (by omega), Int.toNat_natCast, if_pos (by omega)]
  exact toI_loop l hl l.length k 0 _ (by omega) (by omega) (by omega) (by simp) (fun j hj => absurd hj (Nat.not_lt_zero _))

theorem toT_loop (T : List (List Int)) (hl : T.length ≤ 1048576) (hr : ∀ t ∈ T, t.length ≤ 1048576) (d : Nat) : ∀ (k i : Nat) (out : List (List Int)), i ≤ T.length → T.length - i = d → d + 1048578 < k → out.length = T.length → (∀ j, j < i → out[j]? = T[j]?) → laws_toInt64SS.l0 k T out (i : Int) = some T := by
  induction d with
  | zero =>
    intro k i out hi hd hk ho hj
    obtain ⟨k, rfl⟩ : ∃ j, k = j + 1 := ⟨k - 1, by omega⟩
    simp only [laws_toInt64SS.l0]
    rw [if_neg (by omega)]
    congr 1
    apply List.ext_getElem?
    intro j
    rcases Nat.lt_or_ge j i with h | h
    · exact hj j h
    · rw [List.getElem?_eq_none (by omega), List.getElem?_eq_none (by omega)]
  | succ d ih =>
    intro k i out hi hd hk ho hj
    obtain ⟨k, rfl⟩ : ∃ j, k = j + 1 := ⟨k - 1, by omega⟩
    have hil : i < T.length := by omega
    simp only [laws_toInt64SS.l0]
    rw [if_pos (by omega), if_pos (by omega), rdL T i hil, toI_f _ (hr _ (List.getElem_mem hil)) k (by omega)]
    simp only [Option.bind_some]
    rw [if_pos (by omega), up i (by omega), Int.toNat_natCast]
    refine ih k (i + 1) _ (by omega) (by omega) (by omega) (by rw [List.length_set]; exact ho) (fun j hji => ?_)
    by_cases e : j = i
    · subst e; rw [List.getElem?_set_self (by omega), List.getElem?_eq_getElem hil]
    · rw [List.getElem?_set_ne (by omega)]; exact hj j (by omega)

theorem toP_loop (L : List S75) (hl : L.length ≤ 1048576) (d : Nat) : ∀ (k i : Nat) (out : List S46), i ≤ L.length → L.length - i = d → d < k → out.length = L.length → (∀ j, j < i → out[j]? = (L.map toV)[j]?) → laws_toVectorS.l0 k L out (i : Int) = some (L.map toV) := by
  induction d with
  | zero =>
    intro k i out hi hd hk ho hj
    obtain ⟨k, rfl⟩ : ∃ j, k = j + 1 := ⟨k - 1, by omega⟩
    simp only [laws_toVectorS.l0]
    rw [if_neg (by omega)]
    congr 1
    apply List.ext_getElem?
    intro j
    rcases Nat.lt_or_ge j i with h | h
    · exact hj j h
    · rw [List.getElem?_eq_none (by omega), List.getElem?_eq_none (by rw [List.length_map]; omega)]
  | succ d ih =>
    intro k i out hi hd hk ho hj
    obtain ⟨k, rfl⟩ : ∃ j, k = j + 1 := ⟨k - 1, by omega⟩
    have hil : i < L.length := by omega
    simp only [laws_toVectorS.l0]
    rw [if_pos (by omega), if_pos (by omega), rdW L i hil]
    unfold laws_toVector.f
    simp only [Option.bind_some]
    rw [if_pos (by omega), up i (by omega), Int.toNat_natCast]
    refine ih k (i + 1) _ (by omega) (by omega) (by omega) (by rw [List.length_set]; exact ho) (fun j hji => ?_)
    by_cases e : j = i
    · subst e; rw [List.getElem?_set_self (by omega), List.getElem?_map, List.getElem?_eq_getElem hil]; rfl
    · rw [List.getElem?_set_ne (by omega)]; exact hj j (by omega)

theorem toMesh_f (L : List S75) (T : List (List Int)) (hL : L.length ≤ 1048576) (hT : T.length ≤ 1048576) (hr : ∀ t ∈ T, t.length ≤ 1048576) (k : Nat) (hk : 2097155 < k) : laws_toMesh.f k L T = some (L.map toV, T) := by
  unfold laws_toMesh.f laws_toVectorS.f
  rw [if_pos (by omega), Int.toNat_natCast, if_pos (by omega)]
  have h1 := toP_loop L hL L.length k 0 (List.replicate L.length z46) (by omega) (by omega) (by omega) (by simp) (fun j hj => absurd hj (Nat.not_lt_zero _))
  rw [show ((0 : Nat) : Int) = 0 from rfl] at h1
  rw [h1]
  simp only [Option.bind_some]
  unfold laws_toInt64SS.f
  rw [if_pos (by omega), Int.toNat_natCast, if_pos (by omega)]
  have h2 := toT_loop T hT hr T.length k 0 (List.replicate T.length []) (by omega) (by omega) (by omega) (by simp) (fun j hj => absurd hj (Nat.not_lt_zero _))
  rw [show ((0 : Nat) : Int) = 0 from rfl] at h2
  rw [h2]
  rfl

/-! equal meshes -/
/-- A vector of floats below 2^32. -/
def okV (x : S46) : Prop := x.f0 < 4294967296 ∧ x.f1 < 4294967296 ∧ x.f2 < 4294967296
/-- Vectors with the same values. -/
def simV (x y : S46) : Prop := simF x.f0 y.f0 = true ∧ simF x.f1 y.f1 = true ∧ simF x.f2 y.f2 = true
theorem simV_self {x : S46} (h : okV x) : simV x x := ⟨simF_self h.1, simF_self h.2.1, simF_self h.2.2⟩
def simP (a b : List S46) : Prop := a.length = b.length ∧ ∀ (i : Nat) (ha : i < a.length) (hb : i < b.length), simV a[i] b[i]
theorem simP_self {a : List S46} (h : ∀ x ∈ a, okV x) : simP a a := ⟨rfl, fun i ha _ => simV_self (h _ (List.getElem_mem ha))⟩

theorem eqV_loop (a b : List S46) (hl : a.length ≤ 1048576) (h : simP a b) (d : Nat) : ∀ (k i : Nat), i ≤ a.length → a.length - i = d → d < k → laws_eqVectorS.l0 k a b (i : Int) = some true := by
  have hab := h.1
  induction d with
  | zero =>
    intro k i hi hd hk
    obtain ⟨k, rfl⟩ : ∃ j, k = j + 1 := ⟨k - 1, by omega⟩
    simp only [laws_eqVectorS.l0]
    rw [if_neg (by omega)]
  | succ d ih =>
    intro k i hi hd hk
    obtain ⟨k, rfl⟩ : ∃ j, k = j + 1 := ⟨k - 1, by omega⟩
    have hia : i < a.length := by omega
    have hib : i < b.length := by omega
    simp only [laws_eqVectorS.l0]
    rw [if_pos (by omega), if_pos (by omega), if_pos (by omega), rdV a i hia, rdV b i hib]
    unfold laws_eqVector.f
    have hs := h.2 i hia hib
    unfold simV at hs
    rw [if_pos hs]
    simp only [Option.bind_some]
    rw [if_pos trivial, up i (by omega)]
    exact ih k (i + 1) (by omega) (by omega) (by omega)

theorem eqI_loop (l : List Int) (hl : l.length ≤ 1048576) (d : Nat) : ∀ (k i : Nat), i ≤ l.length → l.length - i = d → d < k → laws_eqInt64S.l0 k l l (i : Int) = some true := by
  induction d with
  | zero =>
    intro k i hi hd hk
    obtain ⟨k, rfl⟩ : ∃ j, k = j + 1 := ⟨k - 1, by omega⟩
    simp only [laws_eqInt64S.l0]
    rw [if_neg (by omega)]
  | succ d ih =>
    intro k i hi hd hk
    obtain ⟨k, rfl⟩ : ∃ j, k = j + 1 := ⟨k - 1, by omega⟩
    simp only [laws_eqInt64S.l0]
    rw [if_pos (by omega), if_pos (by omega), if_pos (by omega), if_pos trivial, up i (by omega)]
    exact ih k (i + 1) (by omega) (by omega) (by omega)

theorem eqI_f (l : List Int) (hl : l.length ≤ 1048576) (k : Nat) (hk : 1048577 < k) : laws_eqInt64S.f k l l = some true := by
  unfold laws_eqInt64S.f
  rw [if_pos rfl]
  exact eqI_loop l hl l.length k 0 (by omega) (by omega) (by omega)

theorem eqT_loop (T : List (List Int)) (hl : T.length ≤ 1048576) (hr : ∀ t ∈ T, t.length ≤ 1048576) (d : Nat) : ∀ (k i : Nat), i ≤ T.length → T.length - i = d → d + 1048578 < k → laws_eqInt64SS.l0 k T T (i : Int) = some true := by
  induction d with
  | zero =>
    intro k i hi hd hk
    obtain ⟨k, rfl⟩ : ∃ j, k = j + 1 := ⟨k - 1, by omega⟩
    simp only [laws_eqInt64SS.l0]
    rw [if_neg (by omega)]
  | succ d ih =>
    intro k i hi hd hk
    obtain ⟨k, rfl⟩ : ∃ j, k = j + 1 := ⟨k - 1, by omega⟩
    have hil : i < T.length := by omega
    simp only [laws_eqInt64SS.l0]
    rw [if_pos (by omega), if_pos (by omega), if_pos (by omega), rdL T i hil, eqI_f _ (hr _ (List.getElem_mem hil)) k (by omega)]
    simp only [Option.bind_some]
    rw [if_pos trivial, up i (by omega)]
    exact ih k (i + 1) (by omega) (by omega) (by omega)

theorem eqMesh_f (a b : List S46) (T : List (List Int)) (h : simP a b) (hL : a.length ≤ 1048576) (hT : T.length ≤ 1048576) (hr : ∀ t ∈ T, t.length ≤ 1048576) (k : Nat) (hk : 2097155 < k) : laws_eqMesh.f k a T b T = some true := by
  unfold laws_eqMesh.f laws_eqVectorS.f
  have hab := h.1
  have h1 := eqV_loop a b hL h a.length k 0 (by omega) (by omega) (by omega)
  have h2 := eqT_loop T hT hr T.length k 0 (by omega) (by omega) (by omega)
  rw [show ((0 : Nat) : Int) = 0 from rfl] at h1 h2
  rw [if_pos (by omega), h1]
  simp only [Option.bind_some]
  rw [if_pos trivial]
  unfold laws_eqInt64SS.f
  rw [if_pos rfl, h2]
  rfl

/-! valid meshes -/
def inB (n : Nat) (p : Int) : Bool := decide (0 ≤ p ∧ p < (n : Int))
/-- A triangle of n places. -/
def triB (n : Nat) (t : List Int) : Bool := match t with
  | [a, b, c] => decide (a ≠ b) && decide (b ≠ c) && decide (a ≠ c) && inB n a && inB n b && inB n c
  | _ => false
def validB (n : Nat) (T : List (List Int)) : Bool := decide (n ≤ 64) && decide (T.length ≤ 128) && T.all (triB n)

theorem in_f (n : Nat) (hn : n ≤ 64) (p : Int) : spec_l00In.f p 0 (wrap64 ((n : Int) - 1)) = some (inB n p) := by
  unfold spec_l00In.f inB
  rw [wrap_fit (by omega) (by omega)]
  by_cases h : p ≥ 0
  · rw [if_pos h]; congr 1; rw [decide_eq_decide]; omega
  · rw [if_neg h]; congr 1; symm; rw [decide_eq_false_iff_not]; omega
theorem within_f (n : Nat) (hn : n ≤ 64) (p : Int) : impl_within.f p 0 (wrap64 ((n : Int) - 1)) = some (inB n p) := in_f n hn p

theorem tri3 {t : List Int} (h : t.length = 3) : ∃ a b c, t = [a, b, c] := by
  match t, h with
  | [a, b, c], _ => exact ⟨a, b, c, rfl⟩
theorem triB_len {n : Nat} {t : List Int} (h : triB n t = true) : t.length = 3 := by
  unfold triB at h
  split at h
  · rfl
  · cases h
theorem triB_not {n : Nat} {t : List Int} (h : ¬ t.length = 3) : triB n t = false := by
  cases e : triB n t
  · rfl
  · exact absurd (triB_len e) h

theorem rd3_0 (a b c : Int) : rd [a, b, c] 0 = a := rfl
theorem rd3_1 (a b c : Int) : rd [a, b, c] 1 = b := rfl
theorem rd3_2 (a b c : Int) : rd [a, b, c] 2 = c := rfl

theorem triB_rd (n : Nat) (t : List Int) (h : t.length = 3) : triB n t = (decide (rd t 0 ≠ rd t 1) && decide (rd t 1 ≠ rd t 2) && decide (rd t 0 ≠ rd t 2) && t.all (inB n)) := by
  obtain ⟨a, b, c, rfl⟩ := tri3 h
  rw [rd3_0, rd3_1, rd3_2]
  simp only [triB, List.all_cons, List.all_nil, Bool.and_true, Bool.and_assoc]

theorem triangle_f (n : Nat) (hn : n ≤ 64) (t : List Int) (k : Nat) (hk : 1 < k) : spec_l02Triangle.f k t (n : Int) = some (triB n t) := by
  obtain ⟨k, rfl⟩ : ∃ j, k = j + 1 := ⟨k - 1, by omega⟩
  unfold spec_l02Triangle.f
  by_cases h3 : t.length = 3
  · obtain ⟨a, b, c, rfl⟩ := tri3 h3
    simp only [spec_l02Triangle.j0, rd3_0, rd3_1, rd3_2, in_f n hn, Option.bind_some]
    simp only [triB, List.length_cons, List.length_nil]
    by_cases e1 : a = b <;> by_cases e2 : b = c <;> by_cases e3 : a = c <;> by_cases i1 : inB n a = true <;> by_cases i2 : inB n b = true <;> simp_all
  · rw [if_neg (by omega)]
    simp only [spec_l02Triangle.j0]
    rw [if_pos trivial, triB_not h3]

theorem is_loop (Q : List S46) (T : List (List Int)) (hn : Q.length ≤ 64) (hT : T.length ≤ 128) (d : Nat) : ∀ (k i : Nat), i ≤ T.length → T.length - i = d → d + 2 < k → spec_l02Is.l0 k (i : Int) Q T = some ((T.drop i).all (triB Q.length)) := by
  induction d with
  | zero =>
    intro k i hi hd hk
    obtain ⟨k, rfl⟩ : ∃ j, k = j + 1 := ⟨k - 1, by omega⟩
    simp only [spec_l02Is.l0]
    rw [if_neg (by omega), List.drop_of_length_le (by omega)]
    rfl
  | succ d ih =>
    intro k i hi hd hk
    obtain ⟨k, rfl⟩ : ∃ j, k = j + 1 := ⟨k - 1, by omega⟩
    have hil : i < T.length := by omega
    have e : T.drop i = T[i] :: T.drop (i + 1) := List.drop_eq_getElem_cons hil
    simp only [spec_l02Is.l0]
    rw [if_pos (by omega), if_pos (by omega), rdL T i hil, triangle_f _ hn _ k (by omega), e, List.all_cons]
    simp only [Option.bind_some]
    by_cases h : triB Q.length T[i] = true
    · rw [if_pos h, up i (by omega), ih k (i + 1) (by omega) (by omega) (by omega), h]; rfl
    · rw [if_neg h, Bool.eq_false_iff.2 h]; rfl

theorem is_f (Q : List S46) (T : List (List Int)) (k : Nat) (hk : 200 < k) : spec_l02Is.f k Q T = some (validB Q.length T) := by
  obtain ⟨k, rfl⟩ : ∃ j, k = j + 1 := ⟨k - 1, by omega⟩
  unfold spec_l02Is.f validB
  by_cases h1 : Q.length ≤ 64
  · rw [if_neg (by omega)]
    simp only [spec_l02Is.j0]
    by_cases h2 : T.length ≤ 128
    · rw [if_neg (by simp; omega)]
      have := is_loop Q T h1 h2 T.length k 0 (by omega) (by omega) (by omega)
      rw [show ((0 : Nat) : Int) = 0 from rfl] at this
      rw [this]
      simp [h1, h2]
    · rw [if_pos (by simp; omega)]
      simp [h2]
  · rw [if_pos (by omega)]
    simp only [spec_l02Is.j0]
    rw [if_pos trivial]
    simp [h1]

theorem vm_inner (T : List (List Int)) (n : Nat) (hn : n ≤ 64) (i : Nat) (t : List Int) (ht : t.length = 3) (d : Nat) : ∀ (k j : Nat), j ≤ 3 → 3 - j = d → d < k →
    ∃ k', k' + d + 1 = k ∧ impl_ValidMesh.l1 k (n : Int) T (T.length : Int) (i : Int) t (t.length : Int) (j : Int) = if (t.drop j).all (inB n) = true then impl_ValidMesh.l0 k' (n : Int) T (T.length : Int) (wrap64 ((i : Int) + 1)) else some false := by
  induction d with
  | zero =>
    intro k j hj hd hk
    obtain ⟨k, rfl⟩ : ∃ j, k = j + 1 := ⟨k - 1, by omega⟩
    refine ⟨k, by omega, ?_⟩
    simp only [impl_ValidMesh.l1]
    rw [if_neg (by omega), List.drop_of_length_le (by omega)]
    rfl
  | succ d ih =>
    intro k j hj hd hk
    obtain ⟨k, rfl⟩ : ∃ j, k = j + 1 := ⟨k - 1, by omega⟩
    have hjl : j < t.length := by omega
    obtain ⟨k', hk', h⟩ := ih k (j + 1) (by omega) (by omega) (by omega)
    refine ⟨k', by omega, ?_⟩
    have e : t.drop j = t[j] :: t.drop (j + 1) := List.drop_eq_getElem_cons hjl
    simp only [impl_ValidMesh.l1]
    rw [if_pos (by omega), if_pos (by omega), if_pos (by omega), rdI t j hjl, within_f n hn, e, List.all_cons]
    simp only [Option.bind_some]
    by_cases hb : inB n t[j] = true
    · rw [if_pos hb, up j (by omega), h, hb, Bool.true_and]
    · rw [if_neg hb, if_neg (by simp [hb])]

theorem vm_loop (n : Nat) (hn : n ≤ 64) (T : List (List Int)) (hT : T.length ≤ 128) (d : Nat) : ∀ (k i : Nat), i ≤ T.length → T.length - i = d → 10 * d + 5 < k → impl_ValidMesh.l0 k (n : Int) T (T.length : Int) (i : Int) = some ((T.drop i).all (triB n)) := by
  induction d with
  | zero =>
    intro k i hi hd hk
    obtain ⟨k, rfl⟩ : ∃ j, k = j + 1 := ⟨k - 1, by omega⟩
    simp only [impl_ValidMesh.l0]
    rw [if_neg (by omega), List.drop_of_length_le (by omega)]
    rfl
  | succ d ih =>
    intro k i hi hd hk
    obtain ⟨k, rfl⟩ : ∃ j, k = j + 2 := ⟨k - 2, by omega⟩
    have hil : i < T.length := by omega
    have e : T.drop i = T[i] :: T.drop (i + 1) := List.drop_eq_getElem_cons hil
    simp only [impl_ValidMesh.l0]
    rw [if_pos (by omega), if_pos (by omega), if_pos (by omega), rdL T i hil, e, List.all_cons]
    by_cases h3 : T[i].length = 3
    · rw [if_pos (by omega), if_pos (by omega), if_pos (by omega)]
      obtain ⟨k', hk', h1⟩ := vm_inner T n hn i T[i] h3 3 k 0 (by omega) (by omega) (by omega)
      have h0 := ih k' (i + 1) (by omega) (by omega) (by omega)
      rw [up i (by omega), h0, List.drop_zero] at h1
      rw [triB_rd n _ h3]
      generalize T[i] = t at *
      have h1' : impl_ValidMesh.l1 k (n : Int) T (T.length : Int) (i : Int) t (t.length : Int) 0 = if t.all (inB n) = true then some ((T.drop (i + 1)).all (triB n)) else some false := h1
      by_cases e1 : rd t 0 = rd t 1
      · rw [if_pos e1]
        simp [impl_ValidMesh.j2, e1]
      · rw [if_neg e1, if_pos (by omega)]
        by_cases e2 : rd t 1 = rd t 2
        · rw [if_pos e2]
          simp [impl_ValidMesh.j2, e2]
        · rw [if_neg e2]
          simp only [impl_ValidMesh.j2]
          by_cases e3 : rd t 0 = rd t 2
          · rw [if_pos (by simp [e3])]
            simp [e3]
          · rw [if_neg (by simp [e3]), h1']
            cases t.all (inB n) <;> simp [e1, e2, e3]
    · rw [if_neg (by omega)]
      simp only [impl_ValidMesh.j2]
      rw [if_pos trivial, triB_not h3]; rfl

theorem valid_f (Q : List S46) (T : List (List Int)) (k : Nat) (hk : 2000 < k) : impl_ValidMesh.f k Q T = some (validB Q.length T) := by
  obtain ⟨k, rfl⟩ : ∃ j, k = j + 1 := ⟨k - 1, by omega⟩
  unfold impl_ValidMesh.f validB
  by_cases h1 : Q.length ≤ 64
  · rw [if_neg (by omega)]
    simp only [impl_ValidMesh.j0]
    by_cases h2 : T.length ≤ 128
    · rw [if_neg (by simp; omega)]
      have := vm_loop Q.length h1 T h2 T.length k 0 (by omega) (by omega) (by omega)
      rw [show ((0 : Nat) : Int) = 0 from rfl] at this
      rw [this]
      simp [h1, h2]
    · rw [if_pos (by simp; omega)]
      simp [h2]
  · rw [if_pos (by omega)]
    simp only [impl_ValidMesh.j0]
    rw [if_pos trivial]
    simp [h1]
end Go.Proofs.Ytlendjpmblapkaa.Msh
namespace Go.Proofs.Ytlendjpmblapkaa.Msh
open Fl Go.RowKit Go.Proofs.YtlendjpmblapkaaW.PrintWords Go.Proofs.Ytlendjpmblapkaa.PMesh
set_option linter.unusedVariables false

/-- What is known of a mesh that comes in. -/
structure MeshOk (L : List S75) (T : List (List Int)) : Prop where
  lp : L.length ≤ 9223372036854775807
  lt : T.length ≤ 9223372036854775807
  lr : ∀ t ∈ T, t.length ≤ 9223372036854775807
  fl : ∀ x ∈ L, x.f0 < 4294967296 ∧ x.f1 < 4294967296 ∧ x.f2 < 4294967296

theorem map_ok {L : List S75} (h : ∀ x ∈ L, x.f0 < 4294967296 ∧ x.f1 < 4294967296 ∧ x.f2 < 4294967296) : ∀ x ∈ L.map toV, okV x := by
  intro x hx
  obtain ⟨y, hy, rfl⟩ := List.mem_map.1 hx
  exact h y hy

theorem validMesh_pure (L : List S75) (T : List (List Int)) (h : MeshOk L T) : ∃ k, laws_FnExactValidMesh.f k L T = some true := by
  refine ⟨2097156, ?_⟩
  unfold laws_FnExactValidMesh.f
  obtain ⟨r, e, _, hs⟩ := szMesh_f L T h.lp h.lt h.lr 2097156 (by omega) 1048576 (by omega) (by omega)
  rw [e]
  simp only [Option.bind_some]
  by_cases hr : r < 0
  · rw [if_pos hr]
  · rw [if_neg hr]
    obtain ⟨b1, b2, b3⟩ := hs (by omega)
    rw [toMesh_f L T b1 b2 b3 _ (by omega)]
    unfold spec_ValidMesh.f
    simp only [Option.bind_some]
    rw [is_f _ _ _ (by omega), valid_f _ _ _ (by omega)]
    simp only [Option.bind_some]
    rw [if_neg (by simp), eqMesh_f _ _ _ (simP_self (map_ok h.fl)) (by rw [List.length_map]; exact b1) b2 b3 _ (by omega)]
    rfl
end Go.Proofs.Ytlendjpmblapkaa.Msh
namespace Go.Proofs.Ytlendjpmblapkaa
open Go.RowKit Go.Proofs.YtlendjpmblapkaaW.PrintWords Go.Proofs.Ytlendjpmblapkaa.PMesh Msh

theorem fnExactValidMesh_walk (w : World) (A : Option Addr) (c : Nat) (L : List S75) (B : Option Addr) (e : Nat) (T : List (List Int)) (hL : Kd.C k75 w A L.length L) (hc : L.length ≤ c) (hT : Kd.C (Kd.slice 2 (Kd.int .i64)) w B T.length T) (he : T.length ≤ e) (ok : MeshOk L T) :
    Calls Try.prog 3 #[.agg #[.slice A L.length c, .slice B T.length e]] w fun e w' => e = .returned (.bool true) ∧ Below w.heap.size w w' := by
  obtain ⟨k, h⟩ := validMesh_pure L T ok
  exact laws_FnExactValidMesh.calls k A c L B e T true w hL hc hT he ⟨rfl⟩ h

end Go.Proofs.Ytlendjpmblapkaa
namespace Go.Proofs.Ytlendjpmblapkaa.Msh
open Fl Go.RowKit Go.Proofs.YtlendjpmblapkaaW.PrintWords Go.Proofs.Ytlendjpmblapkaa.PMesh
set_option linter.unusedVariables false

theorem same_loop (a b : List Int) (hl : a.length ≤ 1048576) (hab : a.length = b.length) (d : Nat) : ∀ (k i : Nat), i ≤ a.length → a.length - i = d → d < k → spec_l00Same.l0 k a b (i : Int) = some (decide (a.drop i = b.drop i)) := by
  induction d with
  | zero =>
    intro k i hi hd hk
    obtain ⟨k, rfl⟩ : ∃ j, k = j + 1 := ⟨k - 1, by omega⟩
    simp only [spec_l00Same.l0]
    rw [if_neg (by omega), List.drop_of_length_le (by omega), List.drop_of_length_le (by omega)]
    rfl
  | succ d ih =>
    intro k i hi hd hk
    obtain ⟨k, rfl⟩ : ∃ j, k = j + 1 := ⟨k - 1, by omega⟩
    have hia : i < a.length := by omega
    have hib : i < b.length := by omega
    have ea : a.drop i = a[i] :: a.drop (i + 1) := List.drop_eq_getElem_cons hia
    have eb : b.drop i = b[i] :: b.drop (i + 1) := List.drop_eq_getElem_cons hib
    simp only [spec_l00Same.l0]
    rw [if_pos (by omega), if_pos (by omega), if_pos (by omega), rdI a i hia, rdI b i hib, ea, eb]
    by_cases h : a[i] = b[i]
    · rw [if_pos h, up i (by omega), ih k (i + 1) (by omega) (by omega) (by omega)]
      congr 1
      rw [decide_eq_decide, List.cons.injEq]
      exact ⟨fun h2 => ⟨h, h2⟩, fun h2 => h2.2⟩
    · rw [if_neg h]
      congr 1
      symm
      rw [decide_eq_false_iff_not, List.cons.injEq]
      exact fun h2 => h h2.1

theorem same_f (a b : List Int) (hl : a.length ≤ 1048576) (k : Nat) (hk : 1048577 < k) : spec_l00Same.f k a b = some (decide (a = b)) := by
  unfold spec_l00Same.f
  by_cases h : a.length = b.length
  · rw [if_pos (by omega)]
    have := same_loop a b hl h a.length k 0 (by omega) (by omega) (by omega)
    rw [List.drop_zero, List.drop_zero] at this
    exact this
  · rw [if_neg (by omega)]
    congr 1
    symm
    rw [decide_eq_false_iff_not]
    intro e
    exact h (by rw [e])

theorem sm_loop1 (P Q : List S46) (T U : List (List Int)) (hT : T.length ≤ 1048576) (hr : ∀ t ∈ T, t.length ≤ 1048576) (hTU : T.length = U.length) (d : Nat) : ∀ (k i : Nat), i ≤ T.length → T.length - i = d → d + 1048578 < k → spec_SameMesh.l1 k (i : Int) P T Q U = some (decide (T.drop i = U.drop i)) := by
  induction d with
  | zero =>
    intro k i hi hd hk
    obtain ⟨k, rfl⟩ : ∃ j, k = j + 1 := ⟨k - 1, by omega⟩
    simp only [spec_SameMesh.l1]
    rw [if_neg (by omega), List.drop_of_length_le (by omega), List.drop_of_length_le (by omega)]
    rfl
  | succ d ih =>
    intro k i hi hd hk
    obtain ⟨k, rfl⟩ : ∃ j, k = j + 1 := ⟨k - 1, by omega⟩
    have hia : i < T.length := by omega
    have hib : i < U.length := by omega
    have ea : T.drop i = T[i] :: T.drop (i + 1) := List.drop_eq_getElem_cons hia
    have eb : U.drop i = U[i] :: U.drop (i + 1) := List.drop_eq_getElem_cons hib
    simp only [spec_SameMesh.l1]
    rw [if_pos (by omega), if_pos (by omega), if_pos (by omega), rdL T i hia, rdL U i hib, ea, eb, same_f _ _ (hr _ (List.getElem_mem hia)) k (by omega)]
    simp only [Option.bind_some]
    by_cases h : T[i] = U[i]
    · rw [if_pos (by simp [h]), up i (by omega), ih k (i + 1) (by omega) (by omega) (by omega)]
      congr 1
      rw [decide_eq_decide, List.cons.injEq]
      exact ⟨fun h2 => ⟨h, h2⟩, fun h2 => h2.2⟩
    · rw [if_neg (by simp [h])]
      congr 1
      symm
      rw [decide_eq_false_iff_not, List.cons.injEq]
      exact fun h2 => h h2.1

theorem samePB_cons (x y : S46) (r s : List S46) : G7.samePB (x :: r) (y :: s) = (G7.sameXY x y && G7.samePB r s) := rfl

theorem sm_loop0 (P Q : List S46) (T U : List (List Int)) (hP : P.length ≤ 1048576) (hPQ : P.length = Q.length) (fP : ∀ x ∈ P, G7.okF x) (fQ : ∀ x ∈ Q, G7.okF x) (hT : T.length ≤ 1048576) (hr : ∀ t ∈ T, t.length ≤ 1048576) (hTU : T.length = U.length) (d : Nat) : ∀ (k i : Nat), i ≤ P.length → P.length - i = d → d + 2097159 < k → spec_SameMesh.l0 k (i : Int) P T Q U = some (G7.samePB (P.drop i) (Q.drop i) && decide (T = U)) := by
  induction d with
  | zero =>
    intro k i hi hd hk
    obtain ⟨k, rfl⟩ : ∃ j, k = j + 1 := ⟨k - 1, by omega⟩
    have h1 := sm_loop1 P Q T U hT hr hTU T.length k 0 (by omega) (by omega) (by omega)
    rw [show ((0 : Nat) : Int) = 0 from rfl, List.drop_zero, List.drop_zero] at h1
    simp only [spec_SameMesh.l0]
    rw [if_neg (by omega), List.drop_of_length_le (by omega), List.drop_of_length_le (by omega), h1]
    rfl
  | succ d ih =>
    intro k i hi hd hk
    obtain ⟨k, rfl⟩ : ∃ j, k = j + 1 := ⟨k - 1, by omega⟩
    have hia : i < P.length := by omega
    have hib : i < Q.length := by omega
    have ea : P.drop i = P[i] :: P.drop (i + 1) := List.drop_eq_getElem_cons hia
    have eb : Q.drop i = Q[i] :: Q.drop (i + 1) := List.drop_eq_getElem_cons hib
    obtain ⟨u0, u1, u2⟩ := fP _ (List.getElem_mem hia)
    obtain ⟨v0, v1, v2⟩ := fQ _ (List.getElem_mem hib)
    simp only [spec_SameMesh.l0]
    rw [if_pos (by omega), if_pos (by omega), if_pos (by omega), rdV P i hia, rdV Q i hib, ea, eb]
    unfold spec_l01VSame.f
    rw [if_pos ⟨u0, u1, u2, v0, v1, v2⟩, samePB_cons]
    simp only [Option.bind_some]
    cases h : G7.sameXY P[i] Q[i]
    · have h' : sameVecV P[i].f0 P[i].f1 P[i].f2 Q[i].f0 Q[i].f1 Q[i].f2 = false := h
      rw [if_neg (by rw [h']; decide)]
      rfl
    · have h' : sameVecV P[i].f0 P[i].f1 P[i].f2 Q[i].f0 Q[i].f1 Q[i].f2 = true := h
      rw [if_pos h', up i (by omega), ih k (i + 1) (by omega) (by omega) (by omega), Bool.true_and]

theorem sm_f (P Q : List S46) (T U : List (List Int)) (hP : P.length ≤ 1048576) (fP : ∀ x ∈ P, G7.okF x) (fQ : ∀ x ∈ Q, G7.okF x) (hT : T.length ≤ 1048576) (hr : ∀ t ∈ T, t.length ≤ 1048576) (k : Nat) (hk : 3145740 < k) : spec_SameMesh.f k P T Q U = some (G7.samePB P Q && decide (T = U)) := by
  obtain ⟨k, rfl⟩ : ∃ j, k = j + 1 := ⟨k - 1, by omega⟩
  unfold spec_SameMesh.f
  by_cases hPQ : P.length = Q.length
  · rw [if_pos (by omega)]
    simp only [spec_SameMesh.j0]
    by_cases hTU : T.length = U.length
    · rw [if_neg (by simp [hTU])]
      have := sm_loop0 P Q T U hP hPQ fP fQ hT hr hTU P.length k 0 (by omega) (by omega) (by omega)
      rw [List.drop_zero, List.drop_zero] at this
      exact this
    · rw [if_pos (by simp; omega)]
      have : decide (T = U) = false := by rw [decide_eq_false_iff_not]; exact fun e => hTU (by rw [e])
      rw [this, Bool.and_false]
  · rw [if_neg (by omega)]
    simp only [spec_SameMesh.j0]
    rw [if_pos trivial]
    have : G7.samePB P Q = false := by rw [Bool.eq_false_iff]; exact fun e => hPQ (G7.samePB_len e)
    rw [this]
    rfl

theorem okF_map {L : List S75} (h : ∀ x ∈ L, x.f0 < 4294967296 ∧ x.f1 < 4294967296 ∧ x.f2 < 4294967296) : ∀ x ∈ L.map toV, G7.okF x := map_ok h

theorem sameMesh_pure (L : List S75) (T : List (List Int)) (h : MeshOk L T) (M : List S75) (U : List (List Int)) (h' : MeshOk M U) : ∃ k, laws_FnExactSameMesh.f k L T M U = some true := by
  refine ⟨3145750, ?_⟩
  unfold laws_FnExactSameMesh.f
  obtain ⟨r, e, hr1, hs⟩ := szMesh_f L T h.lp h.lt h.lr 3145750 (by omega) 1048576 (by omega) (by omega)
  rw [e]
  simp only [Option.bind_some]
  by_cases hr : r < 0
  · rw [if_pos hr]
  · rw [if_neg hr]
    obtain ⟨b1, b2, b3⟩ := hs (by omega)
    obtain ⟨q, e', _, hs'⟩ := szMesh_f M U h'.lp h'.lt h'.lr 3145750 (by omega) r (by omega) hr1
    rw [e']
    simp only [Option.bind_some]
    by_cases hq : q < 0
    · rw [if_pos hq]
    · rw [if_neg hq]
      obtain ⟨d1, d2, d3⟩ := hs' (by omega)
      have f1 := okF_map h.fl
      have f2 := okF_map h'.fl
      have l1 : (L.map toV).length ≤ 1048576 := by rw [List.length_map]; exact b1
      have l2 : (M.map toV).length ≤ 1048576 := by rw [List.length_map]; exact d1
      rw [toMesh_f L T b1 b2 b3 _ (by omega), toMesh_f M U d1 d2 d3 _ (by omega)]
      simp only [Option.bind_some]
      rw [sm_f _ _ _ _ l1 f1 f2 b2 b3 _ (by omega)]
      unfold impl_SameMesh.f
      rw [if_pos ⟨l1, G7.okP_iff.2 f1, G7.okP_iff.2 f2, b2, G7.okT_iff.2 b3⟩]
      simp only [Option.bind_some]
      rw [if_neg (by simp), eqMesh_f _ _ _ (simP_self (map_ok h.fl)) l1 b2 b3 _ (by omega)]
      simp only [Option.bind_some]
      rw [if_pos trivial, eqMesh_f _ _ _ (simP_self (map_ok h'.fl)) l2 d2 d3 _ (by omega)]
      rfl
end Go.Proofs.Ytlendjpmblapkaa.Msh
namespace Go.Proofs.Ytlendjpmblapkaa
open Go.RowKit Go.Proofs.YtlendjpmblapkaaW.PrintWords Go.Proofs.Ytlendjpmblapkaa.PMesh Msh

theorem fnExactSameMesh_walk (w : World) (A : Option Addr) (c : Nat) (L : List S75) (B : Option Addr) (e : Nat) (T : List (List Int)) (hL : Kd.C k75 w A L.length L) (hc : L.length ≤ c) (hT : Kd.C (Kd.slice 2 (Kd.int .i64)) w B T.length T) (he : T.length ≤ e) (ok : MeshOk L T)
    (A1 : Option Addr) (c1 : Nat) (L1 : List S75) (B1 : Option Addr) (e1 : Nat) (T1 : List (List Int)) (hL1 : Kd.C k75 w A1 L1.length L1) (hc1 : L1.length ≤ c1) (hT1 : Kd.C (Kd.slice 2 (Kd.int .i64)) w B1 T1.length T1) (he1 : T1.length ≤ e1) (ok1 : MeshOk L1 T1) :
    Calls Try.prog 4 #[.agg #[.slice A L.length c, .slice B T.length e], .agg #[.slice A1 L1.length c1, .slice B1 T1.length e1]] w fun e w' => e = .returned (.bool true) ∧ Below w.heap.size w w' := by
  obtain ⟨k, h⟩ := sameMesh_pure L T ok L1 T1 ok1
  exact laws_FnExactSameMesh.calls k A c L B e T A1 c1 L1 B1 e1 T1 true w hL hc hT he hL1 hc1 hT1 he1 ⟨rfl⟩ h

end Go.Proofs.Ytlendjpmblapkaa
namespace Go.Proofs.Ytlendjpmblapkaa
open Go.ChangeShapes Go.WideShapes Go.ChangeAt Go.RowKit Go.Deep
open Go.ChangeMaps (open_string shut_string)

/-- A row of cells that can be read from A on; nil has none. -/
def RowIn (w : World) (A : Option Addr) (cs : List Value) : Prop :=
  (A = none ∧ cs = []) ∨ ∃ b off, A = some ⟨b, off, none⟩ ∧ b < w.heap.size ∧ ∀ i v, cs[i]? = some v → w.cell? ⟨b, off + i, none⟩ = some v

section
variable {H : Type} {enc : TypeId × Value → H} {P : Program} {w : World} {base : Nat} {spare : Nat → Bool} {held : Bool}

theorem flt_lt {k : FloatKind} {b : Nat} (h : (Lit.float k b).wf = true) : b < 2 ^ k.format.width := by
  cases k
  · show b < 4294967296; simpa [Lit.wf] using h
  · show b < 18446744073709551616; simpa [Lit.wf] using h

theorem op_float {r : Reach} {b0 : Nat} {t : TypeId} {k : FloatKind} {v : Value} {d : DataW H} {ps : List MemPlace} (ht : P.underlying t = some (.float k)) (hval : Value.okWide P w r b0 t v) (hd : DataW.Trod enc P w base spare held t v d ps) :
    ∃ b, b < 2 ^ k.format.width ∧ v = .float k b := by
  obtain ⟨b, rfl, _, _, hw⟩ := open_float ht hval hd
  exact ⟨b, flt_lt hw, rfl⟩

theorem op_int {r : Reach} {b0 : Nat} {t : TypeId} {k : IntKind} {v : Value} {d : DataW H} {ps : List MemPlace} (ht : P.underlying t = some (.int k)) (hval : Value.okWide P w r b0 t v) (hd : DataW.Trod enc P w base spare held t v d ps) :
    ∃ n, (k.min ≤ n ∧ n ≤ k.max) ∧ v = .int k n := by
  obtain ⟨n, rfl, _, _, hw⟩ := open_int ht hval hd
  exact ⟨n, by simpa [Lit.wf] using hw, rfl⟩

theorem op_string {r : Reach} {b0 : Nat} {t : TypeId} {v : Value} {d : DataW H} {ps : List MemPlace} (ht : P.underlying t = some .string) (hval : Value.okWide P w r b0 t v) (hd : DataW.Trod enc P w base spare held t v d ps) :
    ∃ s : ByteArray, s.size ≤ maxLen ∧ v = .string s := by
  obtain ⟨s, rfl, _, _, hw⟩ := open_string ht hval hd
  exact ⟨s, hw, rfl⟩

theorem trod_float {t : TypeId} {k : FloatKind} {n : Nat} {v : Value} {x : DataW H × List MemPlace} (ht : P.underlying t = some (.float k)) (h : DataW.trod enc P w base spare held n t [v] = some x) :
    ∃ b, b < 2 ^ k.format.width ∧ v = .float k b := by
  cases n with
  | zero => simp [DataW.trod] at h
  | succ n =>
    simp only [DataW.trod, ht] at h
    cases v <;> simp at h
    rename_i k' b
    obtain ⟨⟨rfl, hw⟩, _⟩ := h
    exact ⟨b, flt_lt hw, rfl⟩

theorem op_vec {r : Reach} {b0 : Nat} {t f : TypeId} {F : Array Field} {v : Value} {d : DataW H} {p : List MemPlace} (hs : P.underlying t = some (.struct F)) (hf : P.underlying f = some (.float .f32))
    (hF : (F.map (·.type)) = #[f, f, f]) (hone0 : oneCellFields P F = true) (hC : P.cellsOf t = 3)
    (hv : Value.okWide P w r b0 t v) (h : DataW.Trod enc P w base spare held t v d p) :
    ∃ x y z : Nat, x < 2 ^ 32 ∧ y < 2 ^ 32 ∧ z < 2 ^ 32 ∧ v = .agg #[.float .f32 x, .float .f32 y, .float .f32 z] := by
  obtain ⟨F⟩ := F
  have hl : F.length = 3 := by simpa using congrArg Array.size hF
  match F, hl with
  | [f0, f1, f2], _ =>
    simp at hF
    obtain ⟨e0, e1, e2⟩ := hF
    have hone : oneCellFields P #[f0, f1, f2] = true := hone0
    obtain ⟨v0, v1, v2, y0, y1, y2, n, rfl, _, _, t0, t1, t2⟩ := Joins.open_agg3 hs hone hC hv h
    rw [e0] at t0; rw [e1] at t1; rw [e2] at t2
    obtain ⟨x, hx, rfl⟩ := trod_float hf t0
    obtain ⟨y, hy, rfl⟩ := trod_float hf t1
    obtain ⟨z, hz, rfl⟩ := trod_float hf t2
    exact ⟨x, y, z, hx, hy, hz, rfl⟩
end
end Go.Proofs.Ytlendjpmblapkaa
namespace Go.Proofs.Ytlendjpmblapkaa
open Go.ChangeShapes Go.WideShapes Go.ChangeAt Go.RowKit Go.Deep Go.Proofs.YtlendjpmblapkaaW.PrintWords Go.Proofs.Ytlendjpmblapkaa.PMesh Msh
set_option linter.unusedVariables false

section
variable {H : Type} {enc : TypeId × Value → H} {P : Program} {w : World} {base : Nat} {held : Bool}

/-- A slice whose elements are opened one by one. -/
theorem op_rows {α : Type} (d : Kd α) (ok : α → Prop) {t e : TypeId} (ht : P.underlying t = some (.slice e)) (hC : P.cellsOf e = d.sz)
    (hel : ∀ (n : Nat) (cs : List Value) (y : DataW H × List MemPlace), DataW.trod enc P w base (fun _ => true) held n e cs = some y → ∃ x : α, d.K w x cs ∧ ok x)
    {fuel : Nat} {cs : List Value} {y : DataW H × List MemPlace} (h : DataW.trod enc P w base (fun _ => true) held fuel t cs = some y) :
    ∃ (A : Option Addr) (c : Nat) (xs : List α), cs = [.slice A xs.length c] ∧ xs.length ≤ c ∧ xs.length ≤ 9223372036854775807 ∧ Kd.C d w A xs.length xs ∧ ∀ x ∈ xs, ok x := by
  rcases open_slice ht h with ⟨rfl, _⟩ | ⟨a, len, cap, m, n, D, Pl, rfl, _, hl, hm, hmm, hyy, hx⟩
  · exact ⟨none, 0, [], rfl, Nat.le_refl _, by simp, Kd.C_nil d w, fun x hx => by simp at hx⟩
  · have hml : len ≤ m := by rw [hmm]; split <;> omega
    have each : ∀ i, i < len → ∃ x : α, (∃ cs', w.cells? base (a.add (i * d.sz)) d.sz = some cs' ∧ d.K w x cs') ∧ ok x := by
      intro i hi
      obtain ⟨cs', hc, ht'⟩ := hx i (by omega)
      rw [hC] at hc
      obtain ⟨x, hk, ho⟩ := hel n cs' _ ht'
      exact ⟨x, ⟨cs', hc, hk⟩, ho⟩
    obtain ⟨xs, hxl, hxs⟩ : ∃ xs : List α, xs.length = len ∧ ∀ i x, xs[i]? = some x → (∃ cs', w.cells? base (a.add (i * d.sz)) d.sz = some cs' ∧ d.K w x cs') ∧ ok x := by
      clear hx hml hmm hl hm hyy h
      induction len with
      | zero => exact ⟨[], rfl, fun i x hx => by simp at hx⟩
      | succ k ih =>
        obtain ⟨xs, hl, hx⟩ := ih (fun i hi => each i (by omega))
        obtain ⟨z, hz⟩ := each k (by omega)
        refine ⟨xs ++ [z], by simp [hl], fun i x hix => ?_⟩
        rcases Nat.lt_or_ge i xs.length with h' | h'
        · rw [List.getElem?_append_left h'] at hix
          exact hx i x hix
        · rw [List.getElem?_append_right h'] at hix
          have : i - xs.length = 0 := by
            rcases Nat.eq_zero_or_pos (i - xs.length) with h0 | h0
            · exact h0
            · rw [List.getElem?_eq_none (by simp; omega)] at hix; cases hix
          obtain rfl : i = k := by omega
          rw [this] at hix
          cases hix
          exact hz
    have hM : maxLen = 9223372036854775807 := rfl
    subst hxl
    refine ⟨some a, cap, xs, rfl, hl, by omega, ⟨rfl, by omega, fun _ => ⟨a, rfl, fun j p hj => ?_⟩⟩, fun x hxm => ?_⟩
    · obtain ⟨⟨cs', hc, hk⟩, _⟩ := hxs j p hj
      obtain ⟨_, hcl, hat⟩ := World.cells?_some hc
      refine ⟨cs', hcl, hk, fun i u hu => ?_⟩
      have hi : i < d.sz := by
        rcases Nat.lt_or_ge i cs'.length with h' | h'
        · omega
        · rw [List.getElem?_eq_none h'] at hu; cases hu
      have := hat i hi
      rw [Go.Deep.add_add] at this
      rw [this, hu]
    · obtain ⟨i, hi, rfl⟩ := List.getElem_of_mem hxm
      exact (hxs i _ (List.getElem?_eq_getElem hi)).2

theorem trod_int1 {t : TypeId} {k : IntKind} {n : Nat} {cs : List Value} {x : DataW H × List MemPlace} (ht : P.underlying t = some (.int k)) (hC : P.cellsOf t = 1) (h : DataW.trod enc P w base (fun _ => true) held n t cs = some x) :
    ∃ b : Int, cs = [.int k b] ∧ (Lit.int k b).wf = true := by
  cases n with
  | zero => simp [DataW.trod] at h
  | succ n =>
    simp only [DataW.trod, ht] at h
    match cs with
    | [] => simp at h
    | [v] =>
      cases v <;> simp at h
      rename_i k' b
      obtain ⟨⟨rfl, hw⟩, _⟩ := h
      exact ⟨b, rfl, hw⟩
    | _ :: _ :: _ => simp at h

theorem op_tris {t e q : TypeId} (ht : P.underlying t = some (.slice e)) (he : P.underlying e = some (.slice q)) (hq : P.underlying q = some (.int .i64)) (ce : P.cellsOf e = 1) (cq : P.cellsOf q = 1)
    {fuel : Nat} {cs : List Value} {y : DataW H × List MemPlace} (h : DataW.trod enc P w base (fun _ => true) held fuel t cs = some y) :
    ∃ (A : Option Addr) (c : Nat) (T : List (List Int)), cs = [.slice A T.length c] ∧ T.length ≤ c ∧ T.length ≤ 9223372036854775807 ∧ Kd.C (Kd.slice q (Kd.int .i64)) w A T.length T ∧ ∀ t ∈ T, t.length ≤ 9223372036854775807 := by
  refine op_rows (Kd.slice q (Kd.int .i64)) (fun t => t.length ≤ 9223372036854775807) ht ce (fun n cs y hy => ?_) h
  obtain ⟨A, c, xs, rfl, hc, hl, hC, _⟩ := op_rows (Kd.int .i64) (fun _ => True) he cq (fun n cs y hy => by
    obtain ⟨b, rfl, _⟩ := trod_int1 hq cq hy
    exact ⟨b, rfl, trivial⟩) hy
  exact ⟨xs, ⟨A, c, rfl, hc, hC⟩, hl⟩

theorem op_vrow {t f : TypeId} {f0 f1 f2 : Field} {n : Nat} {cs : List Value} {x : DataW H × List MemPlace} (hs : P.underlying t = some (.struct #[f0, f1, f2])) (hf : P.underlying f = some (.float .f32)) (e0 : f0.type = f) (e1 : f1.type = f) (e2 : f2.type = f)
    (hone : oneCellFields P #[f0, f1, f2] = true) (hC : P.cellsOf t = 3) (h : DataW.trod enc P w base (fun _ => true) held n t cs = some x) :
    ∃ a b c : Nat, a < 4294967296 ∧ b < 4294967296 ∧ c < 4294967296 ∧ cs = [.float .f32 a, .float .f32 b, .float .f32 c] := by
  obtain ⟨y0, y1, y2, m, _, hl, t0, t1, t2⟩ := trod_struct3 hs h
  rw [hC] at hl
  obtain ⟨o0, k0⟩ := hone_of hone 0 f0 rfl
  obtain ⟨o1, k1⟩ := hone_of hone 1 f1 rfl
  obtain ⟨o2, k2⟩ := hone_of hone 2 f2 rfl
  match cs, hl with
  | [v0, v1, v2], _ =>
    rw [o0, k0, e0] at t0
    rw [o1, k1, e1] at t1
    rw [o2, k2, e2] at t2
    obtain ⟨a, ha, rfl⟩ := trod_float (v := v0) hf t0
    obtain ⟨b, hb, rfl⟩ := trod_float (v := v1) hf t1
    obtain ⟨c, hc, rfl⟩ := trod_float (v := v2) hf t2
    exact ⟨a, b, c, ha, hb, hc, rfl⟩

theorem op_mesh {r : Reach} {b0 : Nat} {t tp tv tf tt ts ti : TypeId} {F G : Array Field} {v : Value} {d : DataW H} {p : List MemPlace}
    (hs : P.underlying t = some (.struct F)) (hF : (F.map (·.type)) = #[tp, tt]) (hone : oneCellFields P F = true) (hC : P.cellsOf t = 2)
    (hp : P.underlying tp = some (.slice tv)) (hv : P.underlying tv = some (.struct G)) (hG : (G.map (·.type)) = #[tf, tf, tf]) (honeG : oneCellFields P G = true) (hCv : P.cellsOf tv = 3) (hf : P.underlying tf = some (.float .f32))
    (ht : P.underlying tt = some (.slice ts)) (hts : P.underlying ts = some (.slice ti)) (hti : P.underlying ti = some (.int .i64)) (cs1 : P.cellsOf ts = 1) (ci : P.cellsOf ti = 1)
    (hval : Value.okWide P w r b0 t v) (h : DataW.Trod enc P w base (fun _ => true) held t v d p) :
    ∃ (A : Option Addr) (c : Nat) (L : List S75) (B : Option Addr) (e : Nat) (T : List (List Int)), v = .agg #[.slice A L.length c, .slice B T.length e] ∧ Kd.C k75 w A L.length L ∧ L.length ≤ c ∧ Kd.C (Kd.slice ti (Kd.int .i64)) w B T.length T ∧ T.length ≤ e ∧ MeshOk L T := by
  obtain ⟨F⟩ := F
  obtain ⟨G⟩ := G
  have hl : F.length = 2 := by simpa using congrArg Array.size hF
  have hlG : G.length = 3 := by simpa using congrArg Array.size hG
  match F, hl, G, hlG with
  | [f0, f1], _, [g0, g1, g2], _ =>
    simp at hF hG
    obtain ⟨e0, e1⟩ := hF
    obtain ⟨e2, e3, e4⟩ := hG
    obtain ⟨v0, v1, y0, y1, n, rfl, _, _, t0, t1⟩ := Joins.open_agg2 hs hone hC hval h
    rw [e0] at t0
    rw [e1] at t1
    obtain ⟨A, c, L, hA, hc, hL, hCL, hok⟩ := op_rows k75 (fun x => x.f0 < 4294967296 ∧ x.f1 < 4294967296 ∧ x.f2 < 4294967296) hp hCv (fun n cs y hy => by
      obtain ⟨a, b, c, ha, hb, hc, rfl⟩ := op_vrow hv hf e2 e3 e4 honeG hCv hy
      exact ⟨⟨a, b, c⟩, k75_mk w ⟨a, b, c⟩, ha, hb, hc⟩) t0
    obtain ⟨B, e, T, hB, he, hT, hCT, hr⟩ := op_tris ht hts hti cs1 ci t1
    cases hA
    cases hB
    exact ⟨A, c, L, B, e, T, rfl, hCL, hc, hCT, he, ⟨hL, hT, hr, hok⟩⟩
end
end Go.Proofs.Ytlendjpmblapkaa
