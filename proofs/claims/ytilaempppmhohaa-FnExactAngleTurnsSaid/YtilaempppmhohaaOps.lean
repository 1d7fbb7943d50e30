/-
  Plain facts on what '+', '-', '*', '/' and the square root of floats come to: the rung is next to the exact result.
-/
import Derived.Test.YtilaempppmhohaaNum
namespace Go.Proofs.Ytilaempppmhohaa.Fl
open Ieee
set_option linter.unusedVariables false

/-- The value of a finite word, in units of the least place. -/
def iv (f : Format) (b : Nat) : Int := sg (sgn f b) (mg f (rung f b))

/-- A word next to the exact value v / 2^B (in units). -/
structure Near (f : Format) (r : Nat) (v : Int) (B : Nat) : Prop where
  ex : ∃ r0 L, rung f r = min r0 f.infRung ∧ (∀ s, mg f s * 2 ^ B ≤ v.natAbs → s ≤ r0) ∧ (∀ s, v.natAbs ≤ mg f s * 2 ^ B → r0 ≤ s) ∧
    (L = 0 ∨ 2 ^ (f.fractionBits + L) * 2 ^ B ≤ v.natAbs) ∧ 2 * v.natAbs ≤ 2 * (mg f r0 * 2 ^ B) + 2 ^ L * 2 ^ B ∧ 2 * (mg f r0 * 2 ^ B) ≤ 2 * v.natAbs + 2 ^ L * 2 ^ B
  sign : v ≠ 0 → sgn f r = decide (v < 0)

theorem Near.le {f : Format} {r : Nat} {v : Int} {B : Nat} (h : Near f r v B) {s : Nat} (hs : v.natAbs ≤ mg f s * 2 ^ B) : rung f r ≤ s := by
  obtain ⟨r0, L, hr, _, h2, _⟩ := h.ex
  have := h2 s hs
  omega

theorem Near.ge {f : Format} {r : Nat} {v : Int} {B : Nat} (h : Near f r v B) {s : Nat} (hsi : s ≤ f.infRung) (hs : mg f s * 2 ^ B ≤ v.natAbs) : s ≤ rung f r := by
  obtain ⟨r0, L, hr, h1, _, _⟩ := h.ex
  have := h1 s hs
  omega

theorem Near.eq {f : Format} {r : Nat} {v : Int} {B : Nat} (h : Near f r v B) {s : Nat} (hsi : s ≤ f.infRung) (hs : mg f s * 2 ^ B = v.natAbs) : rung f r = s := by
  have a := h.le (s := s) (by omega)
  have b := h.ge hsi (by omega)
  omega

/-- What 'nearest' gives, as a word next to the value. -/
theorem near_nearest (f : Format) (neg : Bool) (mag : Nat) (p : Int) (A B : Nat) (hp : p + B = f.leastPlace + A) (v : Int) (hv : v.natAbs = mag * 2 ^ A) (hs : v ≠ 0 → neg = decide (v < 0)) :
    Near f (f.nearest neg mag p) v B := by
  obtain ⟨r0, L, hne, h1, h2, h3, h4, h5⟩ := nearest_spec f neg mag p A B hp
  refine ⟨⟨r0, L, ?_, ?_, ?_, ?_, ?_, ?_⟩, ?_⟩
  · rw [hne]; exact rung_word f neg (Nat.min_le_right _ _)
  · rw [hv]; exact h1
  · rw [hv]; exact h2
  · rw [hv]; exact h3
  · rw [hv]; exact h4
  · rw [hv]; exact h5
  · intro h; rw [hne, sgn_word f neg (Nat.min_le_right _ _)]; exact hs h

theorem sg_natAbs (s : Bool) (m : Nat) : (sg s m).natAbs = m := by unfold sg; cases s <;> simp

theorem sg_sign (s : Bool) (M : Nat) : sg s M ≠ 0 → s = decide (sg s M < 0) := by
  unfold sg
  cases s
  · intro _; simp
  · intro h; simp at h ⊢; omega

theorem opposite_fin {f : Format} {b : Nat} {m : Nat} {p : Int} (h : f.read b = .number (sgn f b) m p) : (f.read b).opposite = .number (!sgn f b) m p := by rw [h]; rfl

theorem sum_num (f : Format) (s t : Bool) (m n a b : Nat) : (Datum.number s m (f.leastPlace + a)).sum (.number t n (f.leastPlace + b)) =
    some (.number (if signed s m (a - min a b) + signed t n (b - min a b) = 0 then s && t else decide (signed s m (a - min a b) + signed t n (b - min a b) < 0)) (signed s m (a - min a b) + signed t n (b - min a b)).natAbs (f.leastPlace + (min a b : Nat))) := by
  simp only [Datum.sum]
  have e0 : min (f.leastPlace + (a : Int)) (f.leastPlace + (b : Int)) = f.leastPlace + (min a b : Nat) := by omega
  rw [e0]
  have e1 : (f.leastPlace + (a : Int) - (f.leastPlace + (min a b : Nat))).toNat = a - min a b := by omega
  have e2 : (f.leastPlace + (b : Int) - (f.leastPlace + (min a b : Nat))).toNat = b - min a b := by omega
  rw [e1, e2]

/-- The sum of two finite words of signs s, t and magnitudes x, y. -/
theorem near_sum (f : Format) (s t : Bool) (m n a b : Nat) (v : Int) (hv : v = sg s (m * 2 ^ a) + sg t (n * 2 ^ b)) :
    ∃ d, (Datum.number s m (f.leastPlace + a)).sum (.number t n (f.leastPlace + b)) = some d ∧ Near f (f.write d) v 0 := by
  refine ⟨_, sum_num f s t m n a b, ?_⟩
  have hsc : signed s m (a - min a b) + signed t n (b - min a b) = sg s (m * 2 ^ (a - min a b)) + sg t (n * 2 ^ (b - min a b)) := by rw [signed_sg, signed_sg]
  have hmul : (signed s m (a - min a b) + signed t n (b - min a b)) * ((2 ^ min a b : Nat) : Int) = v := by
    rw [hsc, Int.add_mul, ← sg_mul, ← sg_mul, Nat.mul_assoc, Nat.mul_assoc, ← Nat.pow_add, ← Nat.pow_add, show a - min a b + min a b = a by omega, show b - min a b + min a b = b by omega, hv]
  have hpos : (0 : Int) < ((2 ^ min a b : Nat) : Int) := by exact_mod_cast Nat.two_pow_pos _
  generalize signed s m (a - min a b) + signed t n (b - min a b) = T at *
  show Near f (f.nearest _ _ _) v 0
  refine near_nearest f _ _ _ (min a b) 0 (by omega) v ?_ ?_
  · rw [← hmul, Int.natAbs_mul]; rfl
  · intro hv0
    have hT : T ≠ 0 := by
      intro h; rw [h, Int.zero_mul] at hmul; exact hv0 hmul.symm
    rw [if_neg hT, decide_eq_decide]
    constructor
    · intro h
      have := Int.mul_neg_of_neg_of_pos h hpos
      omega
    · intro h
      refine Int.not_le.1 fun h' => ?_
      have := Int.mul_nonneg h' (Int.le_of_lt hpos)
      omega

theorem near_add (k : FloatKind) {x y : Nat} (hx : rung k.format x < k.format.infRung) (hy : rung k.format y < k.format.infRung) :
    ∃ r, bin .add k (some x) (some y) = some r ∧ Near k.format r (iv k.format x + iv k.format y) 0 := by
  obtain ⟨m, a, e1, e1'⟩ := read_fin k.format hx
  obtain ⟨n, b, e2, e2'⟩ := read_fin k.format hy
  obtain ⟨d, hd, hn⟩ := near_sum k.format (sgn k.format x) (sgn k.format y) m n a b (iv k.format x + iv k.format y) (by unfold iv; rw [e1', e2'])
  refine ⟨k.format.write d, ?_, hn⟩
  show (((k.format.read x).sum (k.format.read y)).map k.format.write) = _
  rw [e1, e2, hd]; rfl

theorem near_sub (k : FloatKind) {x y : Nat} (hx : rung k.format x < k.format.infRung) (hy : rung k.format y < k.format.infRung) :
    ∃ r, bin .sub k (some x) (some y) = some r ∧ Near k.format r (iv k.format x - iv k.format y) 0 := by
  obtain ⟨m, a, e1, e1'⟩ := read_fin k.format hx
  obtain ⟨n, b, e2, e2'⟩ := read_fin k.format hy
  obtain ⟨d, hd, hn⟩ := near_sum k.format (sgn k.format x) (!sgn k.format y) m n a b (iv k.format x - iv k.format y) (by
    unfold iv; rw [e1', e2']
    have : sg (!sgn k.format y) (mg k.format (rung k.format y)) = - sg (sgn k.format y) (mg k.format (rung k.format y)) := by unfold sg; cases sgn k.format y <;> simp
    rw [this]; omega)
  refine ⟨k.format.write d, ?_, hn⟩
  show (((k.format.read x).sum (k.format.read y).opposite).map k.format.write) = _
  rw [e1, opposite_fin e2, hd]; rfl

/-- How far the least place lies below one. -/
@[irreducible] def under (f : Format) : Nat := (-f.leastPlace).toNat

theorem under_eq (k : FloatKind) : k.format.leastPlace = -(under k.format : Int) := by cases k <;> decide +kernel

theorem under_double : under double = 1074 := by decide +kernel

theorem near_mul (k : FloatKind) {x y : Nat} (hx : rung k.format x < k.format.infRung) (hy : rung k.format y < k.format.infRung) :
    ∃ r, bin .mul k (some x) (some y) = some r ∧ Near k.format r (iv k.format x * iv k.format y) (under k.format) := by
  obtain ⟨m, a, e1, e1'⟩ := read_fin k.format hx
  obtain ⟨n, b, e2, e2'⟩ := read_fin k.format hy
  have hl := under_eq k
  refine ⟨k.format.nearest (sgn k.format x ^^ sgn k.format y) (m * n) (k.format.leastPlace + a + (k.format.leastPlace + b)), ?_, ?_⟩
  · show (((k.format.read x).product (k.format.read y)).map k.format.write) = _
    rw [e1, e2]; rfl
  · refine near_nearest _ _ _ _ (a + b) _ (by omega) _ ?_ ?_
    · rw [Int.natAbs_mul]
      unfold iv
      rw [sg_natAbs, sg_natAbs, ← e1', ← e2', Nat.pow_add]
      simp only [Nat.mul_assoc, Nat.mul_left_comm]
    · intro h
      unfold iv sg at h ⊢
      generalize mg k.format (rung k.format x) = X at *
      generalize mg k.format (rung k.format y) = Y at *
      have hX : X ≠ 0 := by intro h0; apply h; rw [h0]; cases sgn k.format x <;> simp
      have hY : Y ≠ 0 := by intro h0; apply h; rw [h0]; cases sgn k.format y <;> simp
      have hpos : (0 : Int) < (X : Int) * (Y : Int) := Int.mul_pos (by omega) (by omega)
      cases sgn k.format x <;> cases sgn k.format y <;> simp [Int.neg_mul, Int.mul_neg] <;> omega

/-- A quotient: its rung is at most s where twice the exact one is at most s's magnitude. -/
theorem quo_le (k : FloatKind) {x y : Nat} (hx : rung k.format x < k.format.infRung) (hy : rung k.format y < k.format.infRung) (hy0 : 0 < rung k.format y) :
    ∃ r, bin .quo k (some x) (some y) = some r ∧ ∀ s, 2 * mg k.format (rung k.format x) * 2 ^ under k.format ≤ mg k.format s * mg k.format (rung k.format y) → rung k.format r ≤ s := by
  obtain ⟨m, a, e1, e1'⟩ := read_fin k.format hx
  obtain ⟨n, b, e2, e2'⟩ := read_fin k.format hy
  have hU := under_eq k
  have hn : n ≠ 0 := by
    intro h; rw [h, Nat.zero_mul] at e2'; have := mg_pos k.format hy0; omega
  let more := k.format.fractionBits + 2 + n.log2 - m.log2
  let D := m <<< more
  refine ⟨k.format.nearest (sgn k.format x ^^ sgn k.format y) (2 * (D / n) + (D % n != 0).toNat) (k.format.leastPlace + a - (k.format.leastPlace + b) - more - 1), ?_, ?_⟩
  · show (((k.format.read x).quotient (k.format.fractionBits + 2) (k.format.read y)).map k.format.write) = _
    rw [e1, e2]
    simp only [Datum.quotient]
    rw [if_neg hn]; rfl
  · intro s hs
    have hnear := near_nearest k.format (sgn k.format x ^^ sgn k.format y) (2 * (D / n) + (D % n != 0).toNat) (k.format.leastPlace + a - (k.format.leastPlace + b) - more - 1) (a + under k.format) (b + more + 1) (by omega) (sg (sgn k.format x ^^ sgn k.format y) ((2 * (D / n) + (D % n != 0).toNat) * 2 ^ (a + under k.format))) (sg_natAbs _ _) (sg_sign _ _)
    refine hnear.le ?_
    rw [sg_natAbs]
    have hDe : D = m * 2 ^ more := Nat.shiftLeft_eq _ _
    have hmag : (2 * (D / n) + (D % n != 0).toNat) * n ≤ 4 * D := by
      have hdm := Nat.div_add_mod D n
      have hc : (D % n != 0).toNat ≤ 1 := Bool.toNat_le _
      by_cases hm : m = 0
      · have hD0 : D = 0 := by rw [hDe, hm, Nat.zero_mul]
        rw [hD0]; simp
      · have hnD : n ≤ D := by
          have h1 : n < 2 ^ (n.log2 + 1) := Nat.lt_log2_self
          have h2 : 2 ^ m.log2 ≤ m := Nat.log2_self_le hm
          have h3 : 2 ^ m.log2 * 2 ^ more ≤ m * 2 ^ more := Nat.mul_le_mul_right _ h2
          rw [← Nat.pow_add] at h3
          have h4 : 2 ^ (n.log2 + 1) ≤ 2 ^ (m.log2 + more) := Nat.pow_le_pow_right (by omega) (by show n.log2 + 1 ≤ m.log2 + (k.format.fractionBits + 2 + n.log2 - m.log2); omega)
          rw [hDe]; omega
        have h5 : (2 * (D / n) + (D % n != 0).toNat) * n = 2 * (n * (D / n)) + (D % n != 0).toNat * n := by
          rw [Nat.add_mul, Nat.mul_assoc, Nat.mul_comm (D / n) n]
        have h6 : (D % n != 0).toNat * n ≤ 1 * n := Nat.mul_le_mul_right _ hc
        omega
    have hnpos : 0 < n := by omega
    refine mul_le_cancel hnpos ?_
    have h1 : (2 * (D / n) + (D % n != 0).toNat) * 2 ^ (a + under k.format) * n ≤ 4 * (m * 2 ^ more) * 2 ^ (a + under k.format) := by
      rw [Nat.mul_right_comm, ← hDe]; exact Nat.mul_le_mul_right _ hmag
    have h2 : 4 * (m * 2 ^ more) * 2 ^ (a + under k.format) = 2 * (2 * (m * 2 ^ a) * 2 ^ under k.format) * 2 ^ more := by
      rw [Nat.pow_add, show (4 : Nat) = 2 * 2 from rfl]; ac_rfl
    have h3 : 2 * (2 * (m * 2 ^ a) * 2 ^ under k.format) * 2 ^ more ≤ 2 * (mg k.format s * (n * 2 ^ b)) * 2 ^ more := by
      refine Nat.mul_le_mul_right _ (Nat.mul_le_mul_left _ ?_)
      rw [e1', e2']; exact hs
    have h4 : 2 * (mg k.format s * (n * 2 ^ b)) * 2 ^ more = mg k.format s * 2 ^ (b + more + 1) * n := by
      rw [Nat.pow_succ, Nat.pow_add]; ac_rfl
    omega

/-! ### The square root -/

theorem rootFrom_sq (n : Nat) : ∀ (todo root : Nat), root * root ≤ n → Datum.rootFrom n todo root * Datum.rootFrom n todo root ≤ n := by
  intro todo
  induction todo with
  | zero => intro root h; exact h
  | succ todo ih =>
    intro root h
    unfold Datum.rootFrom
    dsimp only
    split
    · rename_i h'; exact ih _ h'
    · exact ih _ h

/-- The root of a value. -/
def sqrtV (X : Option Nat) : Option Nat := X.bind double.sqrt

theorem sqrt_nn {x r : Nat} (h : double.sqrt x = some r) : val .f64 r = some r := by
  unfold Format.sqrt at h
  refine map_write_val .f64 (o := (double.read x).root (double.fractionBits + 2)) ?_ h
  intro d hd
  cases hr : double.read x <;> rw [hr] at hd <;> simp only [Datum.root] at hd
  · split at hd
    · cases hd; rfl
    · split at hd
      · cases hd
      · cases hd; rfl
  · split at hd
    · cases hd
    · cases hd; rfl
  · cases hd

theorem sqrt_nan {x : Nat} (h : val .f64 x = none) : double.sqrt x = none := by
  obtain ⟨s, t, hr⟩ := nan_of_val h
  have hr' : double.read x = .nan s t := hr
  unfold Format.sqrt
  rw [hr']; rfl

theorem run_sqrt {P : Program} (x : Nat) (w : World) : ∃ r n, (Extern.MathSqrt.sqrt #[.float .f64 x]).run P w = .ok (.float .f64 r) (w.drewN n) ∧ FR .f64 r (sqrtV (Fl.val .f64 x)) := by
  have hb : sqrtV (Fl.val .f64 x) = double.sqrt x := by
    rcases val_cases .f64 x with h | h
    · rw [h]; rfl
    · rw [h, sqrt_nan h]; rfl
  cases h : double.sqrt x with
  | some r =>
    refine ⟨r, 0, ?_, double.sqrt_lt h, ?_⟩
    · have h' : FloatKind.f64.format.sqrt x = some r := h
      have e : Extern.MathSqrt.sqrt #[.float .f64 x] = (match FloatKind.f64.format.sqrt x with | some r => pure (.float .f64 r) | none => do pure (.float .f64 (← choose (.nanBits .f64 x x)))) := rfl
      rw [e, h']; rfl
    · rw [hb, h]; exact sqrt_nn h
  | none =>
    have hn := nan_cut .f64 (.nanBits .f64 x x) (w.tape w.drawn (.nanBits .f64 x x)) (.inl ⟨x, x, rfl⟩)
    refine ⟨_, 1, ?_, hn.1, by rw [hb, h]; exact hn.2⟩
    have h' : FloatKind.f64.format.sqrt x = none := h
    have e : Extern.MathSqrt.sqrt #[.float .f64 x] = (match FloatKind.f64.format.sqrt x with | some r => pure (.float .f64 r) | none => do pure (.float .f64 (← choose (.nanBits .f64 x x)))) := rfl
    rw [e, h']
    simp [choose, Sem.run, Question.forced]; rfl

theorem pw1 (m u A : Nat) : 16 * (m * 2 ^ u) * (2 ^ A * 2 ^ A) = m * 2 ^ (4 + u + A + A) := by
  rw [Nat.pow_add, Nat.pow_add, Nat.pow_add, show (2 : Nat) ^ 4 = 16 from rfl]; ac_rfl

theorem pw2 (m a U B : Nat) : 4 * (m * 2 ^ a) * 2 ^ U * (2 ^ B * 2 ^ B) = m * 2 ^ (2 + a + U + B + B) := by
  rw [Nat.pow_add, Nat.pow_add, Nat.pow_add, Nat.pow_add, show (2 : Nat) ^ 2 = 4 from rfl]; ac_rfl

/-- A root: at most s where four times what is under it is at most the square of s's magnitude. -/
theorem root_le (U : Nat) (hL : double.leastPlace = -(U : Int)) {x : Nat} (hx : rung double x < double.infRung) {r : Nat} (hr : double.sqrt x = some r) :
    ∀ s, 4 * mg double (rung double x) * 2 ^ U ≤ mg double s * mg double s → rung double r ≤ s := by
  intro s hs
  obtain ⟨m, a, e1, e1'⟩ := read_fin double hx
  unfold Format.sqrt at hr
  rw [e1] at hr
  simp only [Datum.root] at hr
  by_cases hm : m = 0
  · rw [if_pos hm] at hr
    subst hm
    have : r = double.word (sgn double x) 0 := by
      have := Option.some.inj hr
      rw [← this]
      show double.nearest _ 0 _ = _
      unfold Format.nearest; rw [if_pos rfl]
    rw [this, rung_word double _ (Nat.zero_le _)]
    exact Nat.zero_le _
  · rw [if_neg hm] at hr
    by_cases hsn : sgn double x = true
    · rw [if_pos hsn] at hr; cases hr
    · rw [if_neg hsn] at hr
      let more0 := 2 * (double.fractionBits + 2) - m.log2
      let i : Int := double.leastPlace + a
      let more := more0 + ((i - more0) % 2).toNat
      let n := m <<< more
      let whole := Datum.rootFrom n (n.log2 / 2 + 1) 0
      have hr' : double.nearest false (2 * whole + (whole * whole != n).toNat) ((i - more) / 2 - 1) = r := Option.some.inj hr
      obtain ⟨h, hh⟩ : ∃ h : Int, i - more = 2 * h := ⟨(i - more) / 2, by
        have e : ((more : Nat) : Int) = (more0 : Int) + (i - more0) % 2 := by
          show (((more0 + ((i - more0) % 2).toNat : Nat)) : Int) = _
          omega
        rw [e]; omega⟩
      have hp : (i - more) / 2 - 1 = h - 1 := by rw [hh]; omega
      rw [hp] at hr'
      have hsq : whole * whole ≤ n := rootFrom_sq n _ 0 (Nat.zero_le _)
      have hne : n = m * 2 ^ more := Nat.shiftLeft_eq _ _
      -- the whole root is at least one
      have hmag : (2 * whole + (whole * whole != n).toNat) * (2 * whole + (whole * whole != n).toNat) ≤ 16 * n := by
        have hc : (whole * whole != n).toNat ≤ 1 := Bool.toNat_le _
        have hn1 : 1 ≤ n := by rw [hne]; exact Nat.mul_pos (by omega) (Nat.two_pow_pos _)
        by_cases hw : whole = 0
        · rw [hw]
          have : (2 * 0 + (0 * 0 != n).toNat) ≤ 1 := by rw [Nat.mul_zero, Nat.zero_add]; exact Bool.toNat_le _
          have h2 := Nat.mul_le_mul this this
          omega
        · have h1 : 2 * whole + (whole * whole != n).toNat ≤ 4 * whole := by omega
          have h2 := Nat.mul_le_mul h1 h1
          have h3 : 4 * whole * (4 * whole) = 16 * (whole * whole) := by rw [show (16 : Nat) = 4 * 4 from rfl]; ac_rfl
          omega
      generalize (2 * whole + (whole * whole != n).toNat) = M at *
      obtain ⟨A, B, hAB⟩ : ∃ A B : Nat, h - 1 + B = double.leastPlace + A := ⟨(h - 1 + U).toNat, (-(h - 1 + U)).toNat, by rw [hL]; omega⟩
      have hnear := near_nearest double false M (h - 1) A B hAB (sg false (M * 2 ^ A)) (sg_natAbs _ _) (sg_sign _ _)
      rw [hr'] at hnear
      refine hnear.le ?_
      rw [sg_natAbs]
      refine Nat.mul_self_le_mul_self_iff.1 ?_
      have k1 : M * 2 ^ A * (M * 2 ^ A) ≤ 16 * (m * 2 ^ more) * (2 ^ A * 2 ^ A) := by
        have : M * 2 ^ A * (M * 2 ^ A) = M * M * (2 ^ A * 2 ^ A) := by ac_rfl
        rw [this, ← hne]; exact Nat.mul_le_mul_right _ hmag
      have k2 : 16 * (m * 2 ^ more) * (2 ^ A * 2 ^ A) = 4 * (m * 2 ^ a) * 2 ^ U * (2 ^ B * 2 ^ B) := by
        rw [pw1, pw2]
        congr 2
        have hi : i = double.leastPlace + a := rfl
        rw [hL] at hi hAB
        omega
      have k3 : 4 * (m * 2 ^ a) * 2 ^ U * (2 ^ B * 2 ^ B) ≤ mg double s * mg double s * (2 ^ B * 2 ^ B) := by
        rw [e1']; exact Nat.mul_le_mul_right _ hs
      have k4 : mg double s * mg double s * (2 ^ B * 2 ^ B) = mg double s * 2 ^ B * (mg double s * 2 ^ B) := by ac_rfl
      omega

end Go.Proofs.Ytilaempppmhohaa.Fl
