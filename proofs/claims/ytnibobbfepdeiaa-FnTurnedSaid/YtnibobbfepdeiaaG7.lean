/-
  Contracts: slices.EqualFunc at vectors and at rows of numbers; the program's SameMesh.
-/
import Derived.Test.YtnibobbfepdeiaaFw
import Derived.Test.YtnibobbfepdeiaaPMeshx46
import Derived.Test.YtnibobbfepdeiaaPMeshx0
import Derived.Lib.Hide
namespace Go.Proofs.Ytnibobbfepdeiaa.G7
open Fl Go.RowKit Go.Proofs.YtnibobbfepdeiaaW.PrintWords Go.Proofs.Ytnibobbfepdeiaa.PMesh
set_option linter.unusedVariables false

theorem wrap_fit {x : Int} (h0 : -9223372036854775808 ≤ x) (h1 : x ≤ 9223372036854775807) : wrap64 x = x := by unfold wrap64; omega
theorem rdI (l : List Int) (i : Nat) (h : i < l.length) : rd l (i : Int) = l[i] := by
  unfold rd
  rw [Int.toNat_natCast, List.getD_eq_getElem?_getD, List.getElem?_eq_getElem h]; rfl

/-- Equal from i on. -/
theorem eqI_loop (a b : List Int) (hl : a.length ≤ 1048576) (hab : a.length = b.length) (d : Nat) : ∀ (k i : Nat), i ≤ a.length → a.length - i = d → d < k → slices_Equal_int64_int64.l0 k a b (a.length : Int) (i : Int) = some (decide (a.drop i = b.drop i)) := by
  induction d with
  | zero =>
    intro k i hi hd hk
    obtain ⟨k, rfl⟩ : ∃ j, k = j + 1 := ⟨k - 1, by omega⟩
    simp only [slices_Equal_int64_int64.l0]
    rw [if_neg (by omega), List.drop_of_length_le (by omega), List.drop_of_length_le (by omega)]
    rfl
  | succ d ih =>
    intro k i hi hd hk
    obtain ⟨k, rfl⟩ : ∃ j, k = j + 1 := ⟨k - 1, by omega⟩
    have hia : i < a.length := by omega
    have hib : i < b.length := by omega
    have ea : a.drop i = a[i] :: a.drop (i + 1) := List.drop_eq_getElem_cons hia
    have eb : b.drop i = b[i] :: b.drop (i + 1) := List.drop_eq_getElem_cons hib
    simp only [slices_Equal_int64_int64.l0]
    rw [if_pos (by omega), if_pos (by omega), if_pos (by omega), if_pos (by omega), rdI a i hia, rdI b i hib, ea, eb]
    by_cases h : a[i] = b[i]
    · rw [if_pos h, wrap_fit (by omega) (by omega), show (i : Int) + 1 = ((i + 1 : Nat) : Int) by omega, ih k (i + 1) (by omega) (by omega) (by omega)]
      congr 1
      rw [decide_eq_decide, List.cons.injEq]
      exact ⟨fun h2 => ⟨h, h2⟩, fun h2 => h2.2⟩
    · rw [if_neg h]
      congr 1
      symm
      rw [decide_eq_false_iff_not, List.cons.injEq]
      exact fun h2 => h h2.1

theorem eqI_f (a b : List Int) (hl : a.length ≤ 1048576) : slices_Equal_int64_int64.f 1048577 a b = some (decide (a = b)) := by
  unfold slices_Equal_int64_int64.f
  by_cases h : a.length = b.length
  · rw [if_pos (by omega)]
    have := eqI_loop a b hl h a.length 1048577 0 (by omega) (by omega) (by omega)
    rw [List.drop_zero, List.drop_zero] at this
    exact this
  · rw [if_neg (by omega)]
    congr 1
    symm
    rw [decide_eq_false_iff_not]
    intro e
    exact h (by rw [e])

theorem call_equal (a b : List Int) (hl : a.length ≤ 1048576) (r : Bool) (hr : decide (a = b) = r) (A B : Option Addr) (c e : Nat) (w : World) (hA : Kd.C (Kd.int .i64) w A a.length a) (hc : a.length ≤ c) (hB : Kd.C (Kd.int .i64) w B b.length b) (he : b.length ≤ e) :
    Calls Try.prog 107 #[.slice A a.length c, .slice B b.length e] w fun E w' => E = .returned (.bool r) ∧ Drawn0 w w' := by
  have h := slices_Equal_int64_int64.calls 1048577 A c a B e b r w hA hc hB he (by rw [eqI_f a b hl, hr])
  have H := Lib.hid h
  clear h hA hB hr
  go_enter Try.func107, Try.ntmps107
  go_wp2_with (first | (go_at_call 108; refine H.out.mono ?_; rintro E w1 ⟨rfl, ⟨m, rfl⟩⟩) | fail)
  go_ret
  exact ⟨rfl, m, rfl⟩

theorem rowsT {w : World} {A : Option Addr} {n : Nat} {T : List (List Int)} (h : Kd.C (Kd.slice 2 (Kd.int .i64)) w A n T) (i : Nat) (hi : i < T.length) :
    ∃ ad Ai ci, A = some ad ∧ w.cell? (ad.add i) = some (.slice Ai T[i].length ci) ∧ T[i].length ≤ ci ∧ Kd.C (Kd.int .i64) w Ai T[i].length T[i] := by
  obtain ⟨ad, e, hc⟩ := h.2.2 (by have := h.1; omega)
  obtain ⟨c, hl, hk, hcell⟩ := hc i T[i] (List.getElem?_eq_getElem hi)
  obtain ⟨Ai, ci, rfl, hle, hC⟩ := hk
  have := hcell 0 _ rfl
  rw [show (Kd.slice 2 (Kd.int .i64)).sz = 1 from rfl, Nat.mul_one, Nat.add_zero] at this
  exact ⟨ad, Ai, ci, e, this, hle, hC⟩

theorem ne_at {α : Type} {T U : List α} {j : Nat} (h : T[j]? ≠ U[j]?) : ¬ T = U := fun e => h (by rw [e])
theorem eq_all {α : Type} {T U : List α} (hl : T.length = U.length) (h : ∀ q, q < T.length → T[q]? = U[q]?) : T = U := by
  apply List.ext_getElem?
  intro q
  rcases Nat.lt_or_ge q T.length with h' | h'
  · exact h q h'
  · rw [List.getElem?_eq_none h', List.getElem?_eq_none (by omega)]

set_option maxHeartbeats 1000000 in
set_option maxRecDepth 100000 in
theorem eqf_tris (T U : List (List Int)) (hT : T.length ≤ 1048576) (hr : ∀ t ∈ T, t.length ≤ 1048576) (A B : Option Addr) (c e : Nat) (w : World) (hA : Kd.C (Kd.slice 2 (Kd.int .i64)) w A T.length T) (hB : Kd.C (Kd.slice 2 (Kd.int .i64)) w B U.length U) :
    Calls Try.prog 106 #[.slice A T.length c, .slice B U.length e, .func (.func 107) #[] #[]] w fun E w' => E = .returned (.bool (decide (T = U))) ∧ Drawn0 w w' := by
  by_cases hl : T.length = U.length
  · have hn : ((T.length : Int) != (U.length : Int)) = false := by simp [hl]
    have hn2 : (T.length != U.length) = false := by simp [hl]
    have hU : U.length ≤ 1048576 := by omega
    obtain ⟨res, hres⟩ : ∃ res, res = decide (T = U) := ⟨_, rfl⟩
    have hno : ∀ j, T[j]? ≠ U[j]? → res = false := fun j h => by rw [hres, decide_eq_false_iff_not]; exact ne_at h
    have hyes : (∀ q, q < T.length → T[q]? = U[q]?) → res = true := fun h => by rw [hres, decide_eq_true_eq]; exact eq_all hl h
    rw [← hres]
    have HA := Lib.hid hA
    have HB := Lib.hid hB
    have HR := Lib.hid hr
    have HL := Lib.hid hl
    have HNO := Lib.hid hno
    have HYES := Lib.hid hyes
    have hlu : T.length ≤ U.length := by omega
    clear hl hA hB hr hno hyes hres
    go_enter Try.func106, Try.ntmps106
    go_wp2_with fail
    go_loopw [17] (fun i wr => ∃ (j m : Nat), j ≤ T.length ∧ i = .int .i64 (j : Int) ∧ Hid (∀ q, q < j → T[q]? = U[q]?) ∧ wr = w.drewN m) (fun i _ => T.length - (intOf i).toNat)
    case atStart => exact ⟨0, 0, Nat.zero_le _, rfl, Lib.hid (fun q hq => absurd hq (Nat.not_lt_zero _)), rfl⟩
    case round =>
      obtain ⟨j, m, hj, rfl, hq, rfl⟩ := hrel
      by_cases hlt : j < T.length
      · have b1 : (j : Int) < (T.length : Int) := by omega
        have b2 : (0 : Int) ≤ (j : Int) := by omega
        have b3 : (j : Int) < 1048576 := by omega
        have b4 : (j : Int) < (U.length : Int) := by omega
        obtain ⟨ad, Ai, ci, rfl, c1, l1, r1⟩ := rowsT HA.out j hlt
        obtain ⟨bd, Bi, di, rfl, c2, l2, r2⟩ := rowsT HB.out j (by omega)
        have hz : T[j].length ≤ 1048576 := HR.out _ (List.getElem_mem hlt)
        have c1' : (w.drewN m).cell? (ad.add j) = some (.slice Ai T[j].length ci) := c1
        have c2' : (w.drewN m).cell? (bd.add j) = some (.slice Bi (U[j]'(by omega)).length di) := c2
        have R1 := Lib.hid (Kd.C_below r1 (pw_below_drewN (Below.refl _ _) m))
        have R2 := Lib.hid (Kd.C_below r2 (pw_below_drewN (Below.refl _ _) m))
        clear r1 r2 c1 c2
        by_cases he : T[j] = U[j]'(by omega)
        · have HE : Hid (decide (T[j] = U[j]'(by omega)) = true) := Lib.hid (by simp [he])
          have hq' : ∀ q, q < j + 1 → T[q]? = U[q]? := fun q hq1 => by
            rcases Nat.lt_or_ge q j with h | h
            · exact hq.out q h
            · obtain rfl : q = j := by omega
              rw [List.getElem?_eq_getElem hlt, List.getElem?_eq_getElem (by omega), he]
          have HQ := Lib.hid hq'
          clear hq' he
          go_wp2_with (first | (go_at_call 107; refine (call_equal _ _ hz true HE.out _ _ _ _ _ R1.out l1 R2.out l2).mono ?_; rintro E w1 ⟨rfl, ⟨n, rfl⟩⟩) | fail)
          go_roundw
          case rel => exact ⟨j + 1, _, hlt, by simp, HQ, by first | rfl | (rw [World.drewN_drewN])⟩
          case measure => simp [intOf]; omega
        · have HE : Hid (decide (T[j] = U[j]'(by omega)) = false) := Lib.hid (by simp [he])
          obtain rfl := HNO.out j (by rw [List.getElem?_eq_getElem hlt, List.getElem?_eq_getElem (by omega)]; exact fun h => he (Option.some.inj h))
          clear he
          go_wp2_with (first | (go_at_call 107; refine (call_equal _ _ hz false HE.out _ _ _ _ _ R1.out l1 R2.out l2).mono ?_; rintro E w1 ⟨rfl, ⟨n, rfl⟩⟩) | fail)
          go_ret
          exact ⟨rfl, _, by first | rfl | (rw [World.drewN_drewN])⟩
      · obtain rfl : j = T.length := by omega
        obtain rfl := HYES.out hq.out
        go_wp2_with fail
        go_ret
        exact ⟨rfl, m, rfl⟩
  · have hn : ((T.length : Int) != (U.length : Int)) = true := by simp; omega
    have hn2 : (T.length != U.length) = true := by simp [hl]
    have hres : decide (T = U) = false := by rw [decide_eq_false_iff_not]; exact fun h => hl (by rw [h])
    rw [hres]
    clear hA hB hr hl hres
    go_enter Try.func106, Try.ntmps106
    go_wp2_with fail
    go_ret
    exact ⟨rfl, Drawn0.refl _⟩

/-- Places with the same values, one by one. -/
def sameXY (x y : S59) : Bool := sameVecV x.f0 x.f1 x.f2 y.f0 y.f1 y.f2
def samePB : List S59 → List S59 → Bool
  | [], [] => true
  | x :: r, y :: s => sameXY x y && samePB r s
  | _, _ => false
theorem samePB_len : ∀ {P Q : List S59}, samePB P Q = true → P.length = Q.length
  | [], [], _ => rfl
  | x :: r, y :: s, h => by
    simp only [samePB, Bool.and_eq_true] at h
    simp [samePB_len h.2]
  | [], _ :: _, h => by simp [samePB] at h
  | _ :: _, [], h => by simp [samePB] at h
theorem samePB_get : ∀ {P Q : List S59}, samePB P Q = true → ∀ (j : Nat) (h : j < P.length) (h' : j < Q.length), sameXY P[j] Q[j] = true
  | [], [], _, j, h, _ => by simp at h
  | x :: r, y :: s, hh, j, h, h' => by
    simp only [samePB, Bool.and_eq_true] at hh
    cases j with
    | zero => exact hh.1
    | succ j => exact samePB_get hh.2 j (by simpa using h) (by simpa using h')
  | [], _ :: _, hh, _, _, _ => by simp [samePB] at hh
  | _ :: _, [], hh, _, _, _ => by simp [samePB] at hh
theorem samePB_all : ∀ {P Q : List S59}, P.length = Q.length → (∀ (j : Nat) (h : j < P.length) (h' : j < Q.length), sameXY P[j] Q[j] = true) → samePB P Q = true
  | [], [], _, _ => rfl
  | x :: r, y :: s, hl, hh => by
    simp only [samePB, Bool.and_eq_true]
    exact ⟨hh 0 (by simp) (by simp), samePB_all (by simpa using hl) (fun j h h' => hh (j + 1) (by simpa using h) (by simpa using h'))⟩
  | [], _ :: _, hl, _ => by simp at hl
  | _ :: _, [], hl, _ => by simp at hl

def okF (x : S59) : Prop := x.f0 < 4294967296 ∧ x.f1 < 4294967296 ∧ x.f2 < 4294967296

def okP (P : List S59) : Bool := P.all fun x => decide (x.f0 < 4294967296) && (decide (x.f1 < 4294967296) && decide (x.f2 < 4294967296))
theorem okP_iff {P : List S59} : okP P = true ↔ ∀ x ∈ P, okF x := by
  unfold okP okF
  rw [List.all_eq_true]
  constructor
  · intro h x hx
    have := h x hx
    simpa using this
  · intro h x hx
    have := h x hx
    simpa using this
def okT (T : List (List Int)) : Bool := T.all fun t => decide (t.length ≤ 1048576)
theorem okT_iff {T : List (List Int)} : okT T = true ↔ ∀ t ∈ T, t.length ≤ 1048576 := by
  unfold okT
  rw [List.all_eq_true]
  constructor
  · intro h x hx
    have := h x hx
    simpa using this
  · intro h x hx
    have := h x hx
    simpa using this

theorem rowsV {w : World} {A : Option Addr} {P : List S59} (h : Kd.C k59 w A P.length P) (j : Nat) (hj : j < P.length) :
    ∃ ad, A = some ad ∧ w.cell? (ad.add (j * 3)) = some (.float .f32 P[j].f0) ∧ w.cell? ⟨(ad.add (j * 3)).block, (ad.add (j * 3)).off + 1, none⟩ = some (.float .f32 P[j].f1) ∧ w.cell? ⟨(ad.add (j * 3)).block, (ad.add (j * 3)).off + 2, none⟩ = some (.float .f32 P[j].f2) := by
  obtain ⟨ad, e, h0, h1, h2⟩ := at_T59 h (j : Int) (by omega) (by omega)
  have hg : rd_T59 P (j : Int) = P[j] := by
    unfold rd_T59
    rw [Int.toNat_natCast, List.getD_eq_getElem?_getD, List.getElem?_eq_getElem hj]; rfl
  rw [hg, Int.toNat_natCast] at h0 h1 h2
  exact ⟨ad, e, h0, h1, h2⟩

set_option maxHeartbeats 1000000 in
set_option maxRecDepth 100000 in
theorem eqf_places (P Q : List S59) (hP : P.length ≤ 1048576) (fP : ∀ x ∈ P, okF x) (fQ : ∀ x ∈ Q, okF x) (A B : Option Addr) (c e : Nat) (w : World) (hA : Kd.C k59 w A P.length P) (hB : Kd.C k59 w B Q.length Q) :
    Calls Try.prog 77 #[.slice A P.length c, .slice B Q.length e, .func (.func 78) #[] #[]] w fun E w' => E = .returned (.bool (samePB P Q)) ∧ Below w.heap.size w w' := by
  by_cases hl : P.length = Q.length
  · have hn : ((P.length : Int) != (Q.length : Int)) = false := by simp [hl]
    have hn2 : (P.length != Q.length) = false := by simp [hl]
    have hQ : Q.length ≤ 1048576 := by omega
    obtain ⟨res, hres⟩ : ∃ res, res = samePB P Q := ⟨_, rfl⟩
    have hno : ∀ (j : Nat) (h : j < P.length) (h' : j < Q.length), sameXY P[j] Q[j] = false → res = false := fun j h h' hx => by
      rw [hres, Bool.eq_false_iff]
      intro ht
      rw [samePB_get ht j h h'] at hx
      cases hx
    have hyes : (∀ (j : Nat) (h : j < P.length) (h' : j < Q.length), sameXY P[j] Q[j] = true) → res = true := fun h => by rw [hres]; exact samePB_all hl h
    rw [← hres]
    have HA := Lib.hid hA
    have HB := Lib.hid hB
    have HP := Lib.hid fP
    have HQ := Lib.hid fQ
    have HNO := Lib.hid hno
    have HYES := Lib.hid hyes
    have hlu : P.length ≤ Q.length := by omega
    clear hl hA hB fP fQ hno hyes hres
    go_enter Try.func77, Try.ntmps77
    go_wp2_with fail
    go_loopw [17] (fun i wr => ∃ j : Nat, j ≤ P.length ∧ i = .int .i64 (j : Int) ∧ Hid (∀ (q : Nat), q < j → ∀ (h : q < P.length) (h' : q < Q.length), sameXY P[q] Q[q] = true) ∧ Hid (Below w.heap.size w wr)) (fun i _ => P.length - (intOf i).toNat)
    case atStart => exact ⟨0, Nat.zero_le _, rfl, Lib.hid (fun q hq => absurd hq (Nat.not_lt_zero _)), Lib.hid (Below.refl _ _)⟩
    case round =>
      obtain ⟨j, hj, rfl, hq, hK⟩ := hrel
      by_cases hlt : j < P.length
      · have b1 : (j : Int) < (P.length : Int) := by omega
        have b2 : (0 : Int) ≤ (j : Int) := by omega
        have b3 : (j : Int) < 1048576 := by omega
        have b4 : (j : Int) < (Q.length : Int) := by omega
        have hltq : j < Q.length := by omega
        obtain ⟨ad, rfl, c0, c1, c2⟩ := rowsV (Kd.C_below HA.out hK.out) j hlt
        obtain ⟨bd, rfl, d0, d1, d2⟩ := rowsV (Kd.C_below HB.out hK.out) j hltq
        obtain ⟨u0, u1, u2⟩ := HP.out _ (List.getElem_mem hlt)
        obtain ⟨v0, v1, v2⟩ := HQ.out _ (List.getElem_mem hltq)
        obtain ⟨t, ht⟩ : ∃ t, t = sameXY P[j] Q[j] := ⟨_, rfl⟩
        have hcall := fun w => Go.Proofs.Ytnibobbfepdeiaa.impl_SameVector P[j].f0 P[j].f1 P[j].f2 Q[j].f0 Q[j].f1 Q[j].f2 u0 u1 u2 v0 v1 v2 w
        rw [show sameVecV P[j].f0 P[j].f1 P[j].f2 Q[j].f0 Q[j].f1 Q[j].f2 = t from ht.symm] at hcall
        have HC := Lib.hid hcall
        have hx1 : ∀ W, Below wr.heap.size wr W → wr.heap.size ≤ W.heap.size := fun W h => h.size
        have hf : t = false → res = false := fun h => HNO.out j hlt hltq (by rw [← ht, h])
        have hq' : t = true → ∀ (q : Nat), q < j + 1 → ∀ (h : q < P.length) (h' : q < Q.length), sameXY P[q] Q[q] = true := fun h q hq1 h1 h2 => by
          rcases Nat.lt_or_ge q j with h3 | h3
          · exact hq.out q h3 h1 h2
          · obtain rfl : q = j := by omega
            rw [← ht, h]
        have HFF := Lib.hid hf
        have HQQ := Lib.hid hq'
        clear hcall ht hf hq' u0 u1 u2 v0 v1 v2 hx1
        generalize P[j] = x at *
        generalize Q[j] = y at *
        have e0 := pw_cell_below (below_alloc (Below.refl _ _) (.cells #[.float .f32 x.f0, .float .f32 x.f1, .float .f32 x.f2] 59)) d0
        have e1 := pw_cell_below (below_alloc (Below.refl _ _) (.cells #[.float .f32 x.f0, .float .f32 x.f1, .float .f32 x.f2] 59)) d1
        have e2 := pw_cell_below (below_alloc (Below.refl _ _) (.cells #[.float .f32 x.f0, .float .f32 x.f1, .float .f32 x.f2] 59)) d2
        clear d0 d1 d2
        cases t with
        | true =>
          go_wp2_with (first | (go_at_call 78; refine (HC.out _).mono ?_; rintro E w1 ⟨rfl, hb⟩; have hsz := hb.size; have KK := Lib.hid hb; clear hb) | fail)
          go_roundw
          case rel => exact ⟨j + 1, hlt, by simp, Lib.hid (HQQ.out (by trivial)), Lib.hid (below_step (below_alloc (below_alloc hK.out _) _) KK.out)⟩
          case measure => simp [intOf]; omega
        | false =>
          obtain rfl := HFF.out (by trivial)
          go_wp2_with (first | (go_at_call 78; refine (HC.out _).mono ?_; rintro E w1 ⟨rfl, hb⟩; have KK := Lib.hid hb; clear hb) | fail)
          go_ret
          exact ⟨rfl, below_step (below_alloc (below_alloc hK.out _) _) KK.out⟩
      · obtain rfl : j = P.length := by omega
        obtain rfl := HYES.out (fun q h h' => hq.out q h h h')
        go_wp2_with fail
        go_ret
        exact ⟨rfl, hK.out⟩
  · have hn : ((P.length : Int) != (Q.length : Int)) = true := by simp; omega
    have hn2 : (P.length != Q.length) = true := by simp [hl]
    have hres : samePB P Q = false := by rw [Bool.eq_false_iff]; exact fun h => hl (samePB_len h)
    rw [hres]
    clear hA hB hl hres
    go_enter Try.func77, Try.ntmps77
    go_wp2_with fail
    go_ret
    exact ⟨rfl, Below.refl _ _⟩

theorem impl_sameTriangles (T U : List (List Int)) (hT : T.length ≤ 1048576) (hr : ∀ t ∈ T, t.length ≤ 1048576) (A B : Option Addr) (c e : Nat) (w : World) (hA : Kd.C (Kd.slice 2 (Kd.int .i64)) w A T.length T) (hB : Kd.C (Kd.slice 2 (Kd.int .i64)) w B U.length U) :
    Calls Try.prog 79 #[.slice A T.length c, .slice B U.length e] w fun E w' => E = .returned (.bool (decide (T = U))) ∧ Drawn0 w w' := by
  have H := Lib.hid (eqf_tris T U hT hr A B c e w hA hB)
  obtain ⟨r, hr'⟩ : ∃ r, r = decide (T = U) := ⟨_, rfl⟩
  rw [← hr'] at H ⊢
  clear hA hB hr hr'
  go_enter Try.func79, Try.ntmps79
  go_wp2_with (first | (go_at_call 106; refine H.out.mono ?_; rintro E w1 ⟨rfl, ⟨m, rfl⟩⟩) | fail)
  go_ret
  exact ⟨rfl, m, rfl⟩

set_option maxHeartbeats 1000000 in
theorem impl_SameMesh (P Q : List S59) (T U : List (List Int)) (hP : P.length ≤ 1048576) (fP : ∀ x ∈ P, okF x) (fQ : ∀ x ∈ Q, okF x) (hT : T.length ≤ 1048576) (hr : ∀ t ∈ T, t.length ≤ 1048576) (A0 B0 A1 B1 : Option Addr) (c0 e0 c1 e1 : Nat) (w : World)
    (hA0 : Kd.C k59 w A0 P.length P) (hB0 : Kd.C (Kd.slice 2 (Kd.int .i64)) w B0 T.length T) (hA1 : Kd.C k59 w A1 Q.length Q) (hB1 : Kd.C (Kd.slice 2 (Kd.int .i64)) w B1 U.length U) :
    Calls Try.prog 32 #[.agg #[.slice A0 P.length c0, .slice B0 T.length e0], .agg #[.slice A1 Q.length c1, .slice B1 U.length e1]] w fun E w' => E = .returned (.bool (samePB P Q && decide (T = U))) ∧ Below w.heap.size w w' := by
  have K2 := below_alloc (below_alloc (Below.refl w.heap.size w) (.cells #[.slice A0 P.length c0, .slice B0 T.length e0] 30)) (.cells #[.slice A1 Q.length c1, .slice B1 U.length e1] 30)
  have H1 := eqf_places P Q hP fP fQ A0 A1 c0 c1 _ (Kd.C_below hA0 K2) (Kd.C_below hA1 K2)
  have H2 := fun w1 (hb : Below _ _ w1) => impl_sameTriangles T U hT hr B0 B1 e0 e1 w1 (Kd.C_below hB0 (below_step K2 hb)) (Kd.C_below hB1 (below_step K2 hb))
  have N0 := blk_alloc (heap_alloc_new w (.cells #[.slice A0 P.length c0, .slice B0 T.length e0] 30)) (.cells #[.slice A1 Q.length c1, .slice B1 U.length e1] 30)
  have N1 := heap_alloc_new (w.alloc (.cells #[.slice A0 P.length c0, .slice B0 T.length e0] 30)) (.cells #[.slice A1 Q.length c1, .slice B1 U.length e1] 30)
  have hsz : (w.alloc (.cells #[.slice A0 P.length c0, .slice B0 T.length e0] 30)).heap.size = w.heap.size + 1 := by simp
  rw [hsz] at N1
  obtain ⟨r1, h1⟩ : ∃ r, r = samePB P Q := ⟨_, rfl⟩
  obtain ⟨r2, h2⟩ : ∃ r, r = decide (T = U) := ⟨_, rfl⟩
  rw [← h1] at H1 ⊢
  rw [← h2] at H2 ⊢
  have G1 := Lib.hid H1
  have G2 := Lib.hid H2
  have GK := Lib.hid K2
  have GN0 := Lib.hid N0
  have GN1 := Lib.hid N1
  clear H1 H2 K2 N0 N1 hsz h1 h2 hA0 hB0 hA1 hB1 fP fQ hr
  cases r1 with
  | true =>
    go_enter Try.func32, Try.ntmps32
    go_wp2_with (first | (go_at_call 77; refine G1.out.mono ?_; rintro E w1 ⟨rfl, hb⟩; have m0 := blk_below GN0.out hb; have m1 := blk_below GN1.out hb; have q0 := (blk_cell m0 1).trans rfl; have q1 := (blk_cell m1 1).trans rfl; have KB := Lib.hid hb; clear hb m0 m1) | (go_at_call 79; refine (G2.out _ KB.out).mono ?_; rintro E w2 ⟨rfl, ⟨m, rfl⟩⟩) | fail)
    go_ret
    exact ⟨by simp, pw_below_drewN (below_step GK.out KB.out) m⟩
  | false =>
    go_enter Try.func32, Try.ntmps32
    go_wp2_with (first | (go_at_call 77; refine G1.out.mono ?_; rintro E w1 ⟨rfl, hb⟩; have KB := Lib.hid hb; clear hb) | fail)
    go_ret
    exact ⟨by simp, below_step GK.out KB.out⟩
end Go.Proofs.Ytnibobbfepdeiaa.G7
