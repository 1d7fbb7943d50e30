/-
  The proof's texts, one behind the other: XFl XNum XStep XCsame XExt XBits XA2 XIn XA4 XC1 XC2 XC3 XC4 XA3 XD3 XFw.
-/
import Derived.Laws.FloatArith
import Derived.Deep.Draws
import Derived.Test.YtnibobbfepdeiaaProg
import Derived.WalkKit
import Derived.Laws.Cover2
import Derived.Laws.Externs
import Derived.KernelRfl
import Derived.Laws.BitsAll
import Derived.Outline
import Derived.Below
import Derived.Deep.RegionHeld3
import Derived.Handy
import Derived.Laws.Alloc2
import Derived.Laws.NewBlocks
import Derived.Deep.WholeRow
import Derived.Test.YtnibobbfepdeiaaWMore
namespace Go.Proofs.Ytnibobbfepdeiaa.Fl
open Ieee

/-- A float's value: none for a NaN, else its bits. -/
def val (k : FloatKind) (b : Nat) : Option Nat := if (k.format.read b).isNaN then none else some b

/-- An operation on values. -/
def bin (op : BinOp) (k : FloatKind) : Option Nat → Option Nat → Option Nat
  | some x, some y => floatBits op k x y
  | _, _ => none

/-- A comparison on values. -/
def cmp (k : FloatKind) : Option Nat → Option Nat → Option Ordering
  | some x, some y => k.format.order x y
  | _, _ => none

theorem val_some {k : FloatKind} {b x : Nat} (h : val k b = some x) : x = b := by
  unfold val at h; split at h <;> simp_all

theorem signWeight_pos (f : Format) : 0 < f.signWeight := Nat.two_pow_pos _
theorem binade_pos (f : Format) : 0 < f.binade := Nat.two_pow_pos _

theorem word_mod (f : Format) (neg : Bool) {rung : Nat} (h : rung < f.signWeight) : f.word neg rung % f.signWeight = rung := by
  unfold Format.word
  split
  · rw [Nat.add_mod_left]; exact Nat.mod_eq_of_lt h
  · exact Nat.mod_eq_of_lt h

theorem word_neg (f : Format) (neg : Bool) {rung : Nat} (h : rung < f.signWeight) : (f.word neg rung / f.signWeight % 2 == 1) = neg := by
  unfold Format.word
  split
  · rename_i hn
    rw [Nat.add_div_left _ (signWeight_pos f), Nat.div_eq_of_lt h, hn]; rfl
  · rename_i hn
    rw [Nat.div_eq_of_lt h]
    cases neg
    · rfl
    · exact absurd rfl hn

theorem binade_le (k : FloatKind) : k.format.binade ≤ k.format.infRung := by cases k <;> decide

theorem isNaN_read (k : FloatKind) (b : Nat) : (k.format.read b).isNaN = decide (k.format.infRung < b % k.format.signWeight) := by
  have hb := binade_le k
  unfold Format.read
  dsimp only
  split
  · simp only [Datum.isNaN]; symm; rw [decide_eq_false_iff_not]; omega
  · split
    · simp only [Datum.isNaN]; symm; rw [decide_eq_false_iff_not]; omega
    · split
      · simp only [Datum.isNaN]; symm; rw [decide_eq_false_iff_not]; omega
      · simp only [Datum.isNaN]; symm; rw [decide_eq_true_eq]; omega

/-- A number's or an infinity's word is no NaN. -/
theorem word_val (k : FloatKind) (neg : Bool) {rung : Nat} (h : rung ≤ k.format.infRung) : val k (k.format.word neg rung) = some (k.format.word neg rung) := by
  have hl := k.format.infRung_lt
  unfold val
  rw [isNaN_read, word_mod _ _ (by omega), if_neg]
  simp only [decide_eq_true_eq]; omega

theorem write_val (k : FloatKind) {d : Datum} (h : d.isNaN = false) : val k (k.format.write d) = some (k.format.write d) := by
  cases d with
  | number neg mag place =>
    simp only [Format.write, Format.nearest]
    split
    · exact word_val k neg (Nat.zero_le _)
    · exact word_val k neg (Nat.min_le_right _ _)
  | infinity neg => exact word_val k neg (Nat.le_refl _)
  | nan neg fr => simp [Datum.isNaN] at h

theorem nan_of_val {k : FloatKind} {b : Nat} (h : val k b = none) : ∃ s t, k.format.read b = .nan s t := by
  unfold val at h
  split at h
  · rename_i hn
    cases hd : k.format.read b with
    | nan s t => exact ⟨s, t, rfl⟩
    | number s m e => rw [hd] at hn; simp [Datum.isNaN] at hn
    | infinity s => rw [hd] at hn; simp [Datum.isNaN] at hn
  · simp at h

theorem nn_of_val {k : FloatKind} {b x : Nat} (h : val k b = some x) : (k.format.read b).isNaN = false := by
  unfold val at h; split at h
  · simp at h
  · rename_i hn; simpa using hn

theorem val_cases (k : FloatKind) (b : Nat) : val k b = some b ∨ val k b = none := by
  unfold val; split <;> simp

/-- An operation is a function of its operands' values. -/
theorem floatBits_bin (op : BinOp) (k : FloatKind) (x y : Nat) : floatBits op k x y = bin op k (val k x) (val k y) := by
  have nx : ∀ s t, k.format.read x = .nan s t → floatBits op k x y = none := by
    intro s t h
    unfold floatBits Format.add Format.sub Format.mul Format.div
    rw [h]
    cases op <;> simp [Datum.sum, Datum.product, Datum.quotient]
  have ny : ∀ s t, k.format.read y = .nan s t → floatBits op k x y = none := by
    intro s t h
    unfold floatBits Format.add Format.sub Format.mul Format.div
    rw [h]
    cases op <;> cases k.format.read x <;> simp [Datum.sum, Datum.product, Datum.quotient, Datum.opposite]
  rcases val_cases k x with hx | hx <;> rcases val_cases k y with hy | hy
  · rw [hx, hy]; rfl
  · rw [hx, hy]; obtain ⟨s, t, h⟩ := nan_of_val hy; exact ny s t h
  · rw [hx]; obtain ⟨s, t, h⟩ := nan_of_val hx; exact nx s t h
  · rw [hx]; obtain ⟨s, t, h⟩ := nan_of_val hx; exact nx s t h

theorem sum_nn {a b d : Datum} (h : a.sum b = some d) : d.isNaN = false := by
  cases a <;> cases b <;> simp only [Datum.sum] at h <;> first | (cases h; done) | (cases h; rfl) | (split at h <;> first | (cases h; done) | (cases h; rfl))

theorem product_nn {a b d : Datum} (h : a.product b = some d) : d.isNaN = false := by
  cases a <;> cases b <;> simp only [Datum.product] at h <;> first | (cases h; done) | (cases h; rfl) | (split at h <;> first | (cases h; done) | (cases h; rfl))

theorem quotient_nn {q : Nat} {a b d : Datum} (h : a.quotient q b = some d) : d.isNaN = false := by
  cases a <;> cases b <;> simp only [Datum.quotient] at h <;> first | (cases h; done) | (cases h; rfl) | (split at h <;> first | (cases h; done) | (cases h; rfl) | (split at h <;> first | (cases h; done) | (cases h; rfl)))

theorem map_write_val (k : FloatKind) {o : Option Datum} {r : Nat} (ho : ∀ d, o = some d → d.isNaN = false) (h : o.map k.format.write = some r) : val k r = some r := by
  cases o with
  | none => cases h
  | some d => cases h; exact write_val k (ho d rfl)

/-- What a valid operation gives is no NaN. -/
theorem floatBits_val {op : BinOp} {k : FloatKind} {x y r : Nat} (h : floatBits op k x y = some r) : val k r = some r := by
  unfold floatBits at h
  split at h
  · exact map_write_val k (fun d hd => sum_nn hd) h
  · exact map_write_val k (fun d hd => sum_nn hd) h
  · exact map_write_val k (fun d hd => product_nn hd) h
  · exact map_write_val k (fun d hd => quotient_nn hd) h
  · cases h

theorem floatBits_lt {op : BinOp} {k : FloatKind} {x y r : Nat} (h : floatBits op k x y = some r) : r < 2 ^ k.format.width := by
  unfold floatBits at h
  split at h
  · exact k.format.add_lt h
  · exact k.format.sub_lt h
  · exact k.format.mul_lt h
  · exact k.format.div_lt h
  · cases h

/-- A comparison is a function of its operands' values. -/
theorem order_cmp (k : FloatKind) (x y : Nat) : k.format.order x y = cmp k (val k x) (val k y) := by
  have nx : ∀ s t, k.format.read x = .nan s t → k.format.order x y = none := by
    intro s t h; unfold Format.order; rw [h]; simp [Datum.order]
  have ny : ∀ s t, k.format.read y = .nan s t → k.format.order x y = none := by
    intro s t h; unfold Format.order; rw [h]; cases k.format.read x <;> simp [Datum.order]
  rcases val_cases k x with hx | hx <;> rcases val_cases k y with hy | hy
  · rw [hx, hy]; rfl
  · rw [hx, hy]; obtain ⟨s, t, h⟩ := nan_of_val hy; exact ny s t h
  · rw [hx]; obtain ⟨s, t, h⟩ := nan_of_val hx; exact nx s t h
  · rw [hx]; obtain ⟨s, t, h⟩ := nan_of_val hx; exact nx s t h

/-- Bits r of kind k, of value X. (A plain definition: no rule of the walk's.) -/
def FR (k : FloatKind) (r : Nat) (X : Option Nat) : Prop := r < 2 ^ k.format.width ∧ val k r = X

theorem FR.val {k : FloatKind} {r : Nat} {X : Option Nat} (h : FR k r X) : Fl.val k r = X := h.2
theorem FR.lt {k : FloatKind} {r : Nat} {X : Option Nat} (h : FR k r X) : r < 2 ^ k.format.width := h.1
/-- The NaNs that the tape chooses. -/
theorem nan_cut (k : FloatKind) (q : Question) (t : Nat) (hq : (∃ x y, q = .nanBits k x y) ∨ (∃ b, q = .nanConv k b)) : FR k (q.cut t) none := by
  have aux : ∀ S I M : Nat, I + 1 + M ≤ S → ∀ v, v < M → ((t % 2) * S + I + 1 + v < 2 * S ∧ I < ((t % 2) * S + I + 1 + v) % S) := by
    intro S I M hM v hv
    rcases Nat.mod_two_eq_zero_or_one t with h | h
    · rw [h, Nat.zero_mul, Nat.zero_add, Nat.mod_eq_of_lt (by omega)]; omega
    · rw [h, Nat.one_mul, show S + I + 1 + v = I + 1 + v + S by omega, Nat.add_mod_right, Nat.mod_eq_of_lt (by omega)]; omega
  have key : q.cut t < 2 ^ k.format.width ∧ k.format.infRung < q.cut t % k.format.signWeight := by
    have a32 := aux (2 ^ 31) 0x7f800000 (2 ^ 23 - 1) (by decide) ((t / 2) % (2 ^ 23 - 1)) (Nat.mod_lt _ (by decide))
    have a64 := aux (2 ^ 63) 0x7ff0000000000000 (2 ^ 52 - 1) (by decide) ((t / 2) % (2 ^ 52 - 1)) (Nat.mod_lt _ (by decide))
    rcases hq with ⟨x, y, rfl⟩ | ⟨b, rfl⟩ <;> cases k
    · exact a32
    · exact a64
    · exact a32
    · exact a64
  refine ⟨key.1, ?_⟩
  unfold Fl.val
  rw [isNaN_read, if_pos]
  simpa using key.2

section
variable {P : Program}

/-- '+', '-', '*', '/': some bits of the value that the operands' values give; some draws. -/
theorem run_arith (op : BinOp) (hop : op = .add ∨ op = .sub ∨ op = .mul ∨ op = .quo) (t : TypeId) (k : FloatKind) (x y : Nat) (w : World) :
    ∃ r n, (binOp op t (.float k x) (.float k y)).run P w = .ok (.float k r) (w.drewN n) ∧ FR k r (bin op k (Fl.val k x) (Fl.val k y)) := by
  cases h : floatBits op k x y with
  | some r =>
    refine ⟨r, 0, ?_, floatBits_lt h, ?_⟩
    · rw [run_float_arith w op t k x y r h]; rfl
    · rw [← floatBits_bin, h]; exact floatBits_val h
  | none =>
    have hn := nan_cut k (.nanBits k x y) (w.tape w.drawn (.nanBits k x y)) (.inl ⟨x, y, rfl⟩)
    refine ⟨_, 1, ?_, hn.1, by rw [← floatBits_bin, h]; exact hn.2⟩
    unfold floatBits at h
    rcases hop with rfl | rfl | rfl | rfl <;> simp only at h <;> simp [binOp, Op.floatArith, h, choose, Sem.run, Question.forced] <;> rfl
end

end Go.Proofs.Ytnibobbfepdeiaa.Fl
namespace Go.Proofs.Ytnibobbfepdeiaa.Fl
open Ieee
set_option linter.unusedVariables false

/-- The magnitude of a rung, in units of the format's least place. -/
def mg (f : Format) (r : Nat) : Nat := if r < f.binade then r else (f.binade + r % f.binade) * 2 ^ (r / f.binade - 1)

theorem mg_step (f : Format) (r : Nat) : mg f r < mg f (r + 1) := by
  have hb := binade_pos f
  unfold mg
  by_cases h1 : r + 1 < f.binade
  · rw [if_pos (by omega), if_pos h1]; omega
  · by_cases h2 : r < f.binade
    · have e : r + 1 = f.binade := by omega
      rw [if_pos h2, if_neg h1, e, Nat.mod_self, Nat.div_self hb]
      simp; omega
    · rw [if_neg h2, if_neg h1]
      have hq : 1 ≤ r / f.binade := (Nat.one_le_div_iff hb).2 (by omega)
      have hdm := Nat.div_add_mod r f.binade
      have hlt := Nat.mod_lt r hb
      by_cases h3 : r % f.binade + 1 < f.binade
      · have e1 : (r + 1) / f.binade = r / f.binade := by
          rw [show r + 1 = f.binade * (r / f.binade) + (r % f.binade + 1) by omega, Nat.mul_add_div hb, Nat.div_eq_of_lt h3]; omega
        have e2 : (r + 1) % f.binade = r % f.binade + 1 := by
          rw [show r + 1 = f.binade * (r / f.binade) + (r % f.binade + 1) by omega, Nat.mul_add_mod, Nat.mod_eq_of_lt h3]
        rw [e1, e2]
        exact Nat.mul_lt_mul_of_pos_right (by omega) (Nat.two_pow_pos _)
      · have e0 : r + 1 = f.binade * (r / f.binade + 1) := by rw [Nat.mul_add]; omega
        have e1 : (r + 1) / f.binade = r / f.binade + 1 := by rw [e0, Nat.mul_div_cancel_left _ hb]
        have e2 : (r + 1) % f.binade = 0 := by rw [e0, Nat.mul_mod_right]
        rw [e1, e2]
        obtain ⟨q, hq'⟩ : ∃ q, r / f.binade = q + 1 := ⟨r / f.binade - 1, by omega⟩
        rw [hq']
        simp only [Nat.add_sub_cancel, Nat.add_zero]
        rw [Nat.pow_succ, ← Nat.mul_assoc, Nat.mul_right_comm]
        exact Nat.mul_lt_mul_of_pos_right (by omega) (Nat.two_pow_pos _)

theorem mg_lt (f : Format) {r s : Nat} (h : r < s) : mg f r < mg f s := by
  induction s with
  | zero => omega
  | succ s ih =>
    rcases Nat.lt_or_ge r s with h' | h'
    · exact Nat.lt_trans (ih h') (mg_step f s)
    · have : r = s := by omega
      subst this; exact mg_step f r

theorem mg_lt_iff (f : Format) {r s : Nat} : mg f r < mg f s ↔ r < s := by
  constructor
  · intro h
    rcases Nat.lt_or_ge r s with h' | h'
    · exact h'
    · rcases Nat.lt_or_ge s r with h2 | h2
      · have := mg_lt f h2; omega
      · have : r = s := by omega
        subst this; omega
  · exact mg_lt f

theorem mg_le_iff (f : Format) {r s : Nat} : mg f r ≤ mg f s ↔ r ≤ s := by
  have := mg_lt_iff f (r := s) (s := r); omega

theorem mg_inj (f : Format) {r s : Nat} (h : mg f r = mg f s) : r = s := by
  have h1 := mg_lt_iff f (r := s) (s := r)
  have h2 := mg_lt_iff f (r := r) (s := s)
  omega

theorem mg_zero (f : Format) : mg f 0 = 0 := by unfold mg; rw [if_pos (binade_pos f)]

theorem mg_pos (f : Format) {r : Nat} (h : 0 < r) : 0 < mg f r := by have := mg_lt f h; rw [mg_zero] at this; exact this

/-- The rung of a word, and its sign. -/
def rung (f : Format) (b : Nat) : Nat := b % f.signWeight
def sgn (f : Format) (b : Nat) : Bool := b / f.signWeight % 2 == 1

/-- What a finite word reads as: a number of the rung's magnitude. -/
theorem read_fin (f : Format) {b : Nat} (h : rung f b < f.infRung) : ∃ m j : Nat, f.read b = .number (sgn f b) m (f.leastPlace + j) ∧ m * 2 ^ j = mg f (rung f b) := by
  unfold Format.read rung sgn at *
  dsimp only
  by_cases h1 : b % f.signWeight < f.binade
  · exact ⟨b % f.signWeight, 0, by rw [if_pos h1]; simp, by unfold mg; rw [if_pos h1]; simp⟩
  · refine ⟨f.binade + b % f.signWeight % f.binade, b % f.signWeight / f.binade - 1, by rw [if_neg h1, if_pos h], by unfold mg; rw [if_neg h1]⟩

theorem read_inf (f : Format) (hf : f.binade ≤ f.infRung) {b : Nat} (h : rung f b = f.infRung) : f.read b = .infinity (sgn f b) := by
  unfold Format.read rung sgn at *
  dsimp only
  rw [if_neg (by omega), if_neg (by omega), if_pos h]

theorem nn_iff (k : FloatKind) (b : Nat) : val k b = some b ↔ rung k.format b ≤ k.format.infRung := by
  unfold val rung
  rw [isNaN_read]
  split
  · rename_i h; simp at h; constructor
    · intro h'; cases h'
    · intro h'; omega
  · rename_i h; simp at h; simp; omega

/-- The signed rung. -/
def key (f : Format) (b : Nat) : Int := if sgn f b then -(rung f b : Int) else (rung f b : Int)

theorem compare_scale (a b : Int) (c : Int) (hc : 0 < c) : compare (a * c) (b * c) = compare a b := by
  rcases Int.lt_trichotomy a b with h | h | h
  · have h' : a * c < b * c := Int.mul_lt_mul_of_pos_right h hc
    rw [Int.compare_eq_lt.2 h, Int.compare_eq_lt.2 h']
  · subst h; rw [Int.compare_eq_eq.2 rfl, Int.compare_eq_eq.2 rfl]
  · have h' : b * c < a * c := Int.mul_lt_mul_of_pos_right h hc
    rw [Int.compare_eq_gt.2 h, Int.compare_eq_gt.2 h']

/-- A magnitude with its sign. -/
def sg (s : Bool) (m : Nat) : Int := if s then -(m : Int) else (m : Int)

theorem signed_sg (s : Bool) (m u : Nat) : signed s m u = sg s (m * 2 ^ u) := by
  unfold signed sg; rw [Nat.shiftLeft_eq]

theorem sg_mul (s : Bool) (m c : Nat) : sg s (m * c) = sg s m * (c : Int) := by
  unfold sg; cases s <;> simp [Int.neg_mul]

theorem order_num (f : Format) (s t : Bool) (m n a b : Nat) :
    (Datum.number s m (f.leastPlace + a)).order (.number t n (f.leastPlace + b)) = some (compare (sg s (m * 2 ^ a)) (sg t (n * 2 ^ b))) := by
  simp only [Datum.order, signed_sg]
  congr 1
  have e1 : (f.leastPlace + (a : Int) - min (f.leastPlace + (a : Int)) (f.leastPlace + (b : Int))).toNat = a - min a b := by omega
  have e2 : (f.leastPlace + (b : Int) - min (f.leastPlace + (a : Int)) (f.leastPlace + (b : Int))).toNat = b - min a b := by omega
  rw [e1, e2]
  rw [← compare_scale _ _ ((2 ^ min a b : Nat) : Int) (by exact_mod_cast Nat.two_pow_pos _), ← sg_mul, ← sg_mul, Nat.mul_assoc, Nat.mul_assoc, ← Nat.pow_add, ← Nat.pow_add]
  rw [show a - min a b + min a b = a by omega, show b - min a b + min a b = b by omega]

theorem compare_sg_mg (f : Format) (s t : Bool) (x y : Nat) : compare (sg s (mg f x)) (sg t (mg f y)) = compare (sg s x) (sg t y) := by
  have hx : mg f x = 0 ↔ x = 0 := by
    constructor
    · intro h; rcases Nat.eq_zero_or_pos x with h' | h'
      · exact h'
      · have := mg_pos f h'; omega
    · intro h; subst h; exact mg_zero f
  have hy : mg f y = 0 ↔ y = 0 := by
    constructor
    · intro h; rcases Nat.eq_zero_or_pos y with h' | h'
      · exact h'
      · have := mg_pos f h'; omega
    · intro h; subst h; exact mg_zero f
  have h1 := mg_lt_iff f (r := x) (s := y)
  have h2 := mg_lt_iff f (r := y) (s := x)
  have key : (sg s (mg f x) < sg t (mg f y) ↔ sg s x < sg t y) ∧ (sg t (mg f y) < sg s (mg f x) ↔ sg t y < sg s x) := by
    unfold sg; cases s <;> cases t <;> simp <;> omega
  rcases Int.lt_trichotomy (sg s x) (sg t y) with h | h | h
  · rw [Int.compare_eq_lt.2 h, Int.compare_eq_lt.2 (key.1.2 h)]
  · have : sg s (mg f x) = sg t (mg f y) := by
      have a := key.1; have b := key.2; omega
    rw [Int.compare_eq_eq.2 h, Int.compare_eq_eq.2 this]
  · rw [Int.compare_eq_gt.2 h, Int.compare_eq_gt.2 (key.2.2 h)]

/-- A comparison of two that are no NaN compares their signed rungs. -/
theorem order_key (k : FloatKind) {x y : Nat} (hx : rung k.format x ≤ k.format.infRung) (hy : rung k.format y ≤ k.format.infRung) :
    k.format.order x y = some (compare (key k.format x) (key k.format y)) := by
  have hf := binade_le k
  have hp := binade_pos k.format
  unfold Format.order
  have keysg : ∀ b, key k.format b = sg (sgn k.format b) (rung k.format b) := fun b => rfl
  rw [keysg, keysg]
  rcases Nat.lt_or_ge (rung k.format x) k.format.infRung with h1 | h1 <;> rcases Nat.lt_or_ge (rung k.format y) k.format.infRung with h2 | h2
  · obtain ⟨m, a, e1, e1'⟩ := read_fin k.format h1
    obtain ⟨n, b, e2, e2'⟩ := read_fin k.format h2
    rw [e1, e2, order_num, e1', e2', compare_sg_mg]
  · obtain ⟨m, a, e1, e1'⟩ := read_fin k.format h1
    rw [e1, read_inf _ hf (by omega)]
    simp only [Datum.order]
    congr 1
    symm
    cases sgn k.format y
    · rw [if_neg (by simp), Int.compare_eq_lt]; simp only [sg]; cases sgn k.format x <;> simp only [if_true, if_false, Bool.false_eq_true] <;> omega
    · rw [if_pos rfl, Int.compare_eq_gt]; simp only [sg]; cases sgn k.format x <;> simp only [if_true, if_false, Bool.false_eq_true] <;> omega
  · obtain ⟨n, b, e2, e2'⟩ := read_fin k.format h2
    rw [e2, read_inf _ hf (by omega)]
    simp only [Datum.order]
    congr 1
    symm
    cases sgn k.format x
    · rw [if_neg (by simp), Int.compare_eq_gt]; simp only [sg]; cases sgn k.format y <;> simp only [if_true, if_false, Bool.false_eq_true] <;> omega
    · rw [if_pos rfl, Int.compare_eq_lt]; simp only [sg]; cases sgn k.format y <;> simp only [if_true, if_false, Bool.false_eq_true] <;> omega
  · rw [read_inf _ hf (b := x) (by omega), read_inf _ hf (b := y) (by omega)]
    simp only [Datum.order]
    congr 1
    symm
    have e1 : rung k.format x = k.format.infRung := by omega
    have e2 : rung k.format y = k.format.infRung := by omega
    rw [e1, e2]
    cases sgn k.format x <;> cases sgn k.format y
    · rw [show compare (false.toNat) (false.toNat) = Ordering.eq by decide, Int.compare_eq_eq]
    · rw [show compare (true.toNat) (false.toNat) = Ordering.gt by decide, Int.compare_eq_gt]; simp [sg]; omega
    · rw [show compare (false.toNat) (true.toNat) = Ordering.lt by decide, Int.compare_eq_lt]; simp [sg]; omega
    · rw [show compare (true.toNat) (true.toNat) = Ordering.eq by decide, Int.compare_eq_eq]

/-! ### Rounding -/

/-- Rounding to the nearest whole number, ties to even, of n / 2 ^ d. -/
def cutE (n d : Nat) : Nat := Toward.even.cut false n d

theorem cut_neg (neg : Bool) (n d : Nat) : Toward.even.cut neg n d = cutE n d := rfl

/-- The cut is within a half: 2 * |cut * 2^d - n| ≤ 2^d; and it is exact where 2^d divides n. -/
theorem cutE_zero (n : Nat) : cutE n 0 = n := by
  unfold cutE Toward.cut
  simp only [Nat.zero_min, Nat.shiftLeft_zero, Nat.div_one, Nat.mod_one]
  simp

theorem gap_eq (n d : Nat) (h : d ≤ n.log2 + 2) : 1 <<< min d (n.log2 + 2) = 2 ^ d := by
  rw [Nat.min_eq_left h, Nat.shiftLeft_eq, Nat.one_mul]

theorem cutE_big (n d : Nat) (h : n.log2 + 2 ≤ d) : cutE n d = 0 := by
  unfold cutE Toward.cut
  dsimp only
  rw [Nat.min_eq_right h, Nat.shiftLeft_eq, Nat.one_mul]
  have hlt : n < 2 ^ (n.log2 + 1) := Nat.lt_log2_self
  have e : 2 ^ (n.log2 + 2) = 2 * 2 ^ (n.log2 + 1) := by rw [Nat.pow_succ, Nat.mul_comm]
  rw [Nat.div_eq_of_lt (by omega), Nat.mod_eq_of_lt (by omega)]
  simp only [Nat.zero_add, Nat.zero_mod]
  rw [Bool.toNat_eq_zero]
  simp; omega

/-- The cut against a half: 2 * n ≤ (2 * cut + 1) * 2^d and (2 * cut - 1) * 2^d ≤ 2 * n. -/
theorem cutE_spec (n d : Nat) : 2 * n ≤ (2 * cutE n d + 1) * 2 ^ d ∧ 2 * cutE n d * 2 ^ d ≤ 2 * n + 2 ^ d := by
  by_cases h : d ≤ n.log2 + 2
  · have hp : 0 < 2 ^ d := Nat.two_pow_pos _
    have hdm := Nat.div_add_mod n (2 ^ d)
    have hlt := Nat.mod_lt n hp
    have hc : cutE n d = n / 2 ^ d + (decide (2 ^ d < 2 * (n % 2 ^ d)) || (2 ^ d == 2 * (n % 2 ^ d) && n / 2 ^ d % 2 == 1)).toNat := by
      unfold cutE Toward.cut
      dsimp only
      rw [gap_eq n d h]
    generalize n / 2 ^ d = q at *
    generalize n % 2 ^ d = r at *
    generalize 2 ^ d = D at *
    subst hdm
    by_cases h1 : D < 2 * r
    · have e : cutE (D * q + r) d = q + 1 := by rw [hc]; simp [h1]
      rw [e]
      constructor
      · have : (2 * (q + 1) + 1) * D = 2 * (D * q) + 3 * D := by rw [Nat.mul_comm D q]; simp only [Nat.add_mul, Nat.mul_assoc, Nat.one_mul]; omega
        omega
      · have : 2 * (q + 1) * D = 2 * (D * q) + 2 * D := by rw [Nat.mul_comm D q]; simp only [Nat.add_mul, Nat.mul_assoc, Nat.one_mul]; omega
        omega
    · by_cases h2 : D = 2 * r ∧ q % 2 = 1
      · have e : cutE (D * q + r) d = q + 1 := by rw [hc]; simp [h2.1, h2.2]
        rw [e]
        constructor
        · have : (2 * (q + 1) + 1) * D = 2 * (D * q) + 3 * D := by rw [Nat.mul_comm D q]; simp only [Nat.add_mul, Nat.mul_assoc, Nat.one_mul]; omega
          omega
        · have : 2 * (q + 1) * D = 2 * (D * q) + 2 * D := by rw [Nat.mul_comm D q]; simp only [Nat.add_mul, Nat.mul_assoc, Nat.one_mul]; omega
          omega
      · have e : cutE (D * q + r) d = q := by
          rw [hc, Bool.toNat_eq_zero.2, Nat.add_zero]
          simp only [Bool.or_eq_false_iff, decide_eq_false_iff_not, Bool.and_eq_false_iff, beq_eq_false_iff_ne]
          refine ⟨h1, ?_⟩
          by_cases h3 : D = 2 * r
          · right; exact fun h4 => h2 ⟨h3, h4⟩
          · left; exact h3
        rw [e]
        constructor
        · have : (2 * q + 1) * D = 2 * (D * q) + D := by rw [Nat.mul_comm D q]; simp only [Nat.add_mul, Nat.mul_assoc, Nat.one_mul]
          omega
        · have : 2 * q * D = 2 * (D * q) := by rw [Nat.mul_comm D q, Nat.mul_assoc]
          omega
  · have e := cutE_big n d (by omega)
    rw [e]
    have hlt : n < 2 ^ (n.log2 + 1) := Nat.lt_log2_self
    have e2 : 2 ^ d = 2 ^ (n.log2 + 1) * 2 ^ (d - (n.log2 + 1)) := by rw [← Nat.pow_add]; congr 1; omega
    have e3 : 2 ≤ 2 ^ (d - (n.log2 + 1)) := by
      have : 2 ^ 1 ≤ 2 ^ (d - (n.log2 + 1)) := Nat.pow_le_pow_right (by omega) (by omega)
      simpa using this
    have : 2 ^ (n.log2 + 1) * 2 ≤ 2 ^ d := by rw [e2]; exact Nat.mul_le_mul_left _ e3
    omega

theorem mg_KL (f : Format) (L K : Nat) (hK : K ≤ 2 * f.binade) (h : L = 0 ∨ f.binade ≤ K) : mg f (L * f.binade + K) = K * 2 ^ L := by
  have hb := binade_pos f
  unfold mg
  by_cases h1 : K < f.binade
  · have : L = 0 := by omega
    subst this
    rw [if_pos (by omega)]; simp
  · rw [if_neg (by have := Nat.zero_le (L * f.binade); omega)]
    by_cases h2 : K = 2 * f.binade
    · subst h2
      have e : L * f.binade + 2 * f.binade = f.binade * (L + 2) := by rw [Nat.mul_add, Nat.mul_comm f.binade L, Nat.mul_comm f.binade 2]
      rw [e, Nat.mul_mod_right, Nat.mul_div_cancel_left _ hb, Nat.add_zero, show L + 2 - 1 = L + 1 by omega, Nat.pow_succ, Nat.mul_comm (2 ^ L) 2, ← Nat.mul_assoc, Nat.mul_comm 2 f.binade]
    · have e : L * f.binade + K = f.binade * (L + 1) + (K - f.binade) := by rw [Nat.mul_add, Nat.mul_comm f.binade L]; omega
      rw [e, Nat.mul_add_mod, Nat.mul_add_div hb, Nat.mod_eq_of_lt (by omega), Nat.div_eq_of_lt (by omega)]
      rw [show L + 1 + 0 - 1 = L by omega, show f.binade + (K - f.binade) = K by omega]

theorem mul_le_cancel {a b c : Nat} (hc : 0 < c) (h : a * c ≤ b * c) : a ≤ b := Nat.le_of_mul_le_mul_right h hc

/-- Rounding: the rung r0 next to 'mag * 2^A / 2^B' units. -/
theorem nearest_spec (f : Format) (neg : Bool) (mag : Nat) (p : Int) (A B : Nat) (hp : p + B = f.leastPlace + A) :
    ∃ r0 L, f.nearest neg mag p = f.word neg (min r0 f.infRung) ∧ (∀ s, mg f s * 2 ^ B ≤ mag * 2 ^ A → s ≤ r0) ∧ (∀ s, mag * 2 ^ A ≤ mg f s * 2 ^ B → r0 ≤ s) ∧
      (L = 0 ∨ 2 ^ (f.fractionBits + L) * 2 ^ B ≤ mag * 2 ^ A) ∧ 2 * (mag * 2 ^ A) ≤ 2 * (mg f r0 * 2 ^ B) + 2 ^ L * 2 ^ B ∧ 2 * (mg f r0 * 2 ^ B) ≤ 2 * (mag * 2 ^ A) + 2 ^ L * 2 ^ B := by
  have hBp : 0 < 2 ^ B := Nat.two_pow_pos _
  by_cases hm : mag = 0
  · subst hm
    refine ⟨0, 0, by unfold Format.nearest; rw [if_pos rfl]; simp, ?_, ?_, .inl rfl, ?_, ?_⟩
    · intro s h
      rw [Nat.zero_mul] at h
      have h0 : mg f s = 0 := by
        rcases Nat.eq_zero_or_pos (mg f s) with h' | h'
        · exact h'
        · have := Nat.mul_pos h' hBp; omega
      rcases Nat.eq_zero_or_pos s with h' | h'
      · omega
      · have := mg_pos f h'; omega
    · intro s _; exact Nat.zero_le _
    · rw [mg_zero]; omega
    · rw [mg_zero]; omega
  · have hm' : mag ≠ 0 := hm
    have hbp := binade_pos f
    let last : Int := max (p + mag.log2 - f.fractionBits) f.leastPlace
    obtain ⟨L, hL⟩ : ∃ L : Nat, last = f.leastPlace + L := ⟨(last - f.leastPlace).toNat, by omega⟩
    let up := (p - last).toNat
    let drop := (last - p).toNat
    let K := cutE (mag <<< up) drop
    have hud : up + L + B = A + drop := by omega
    have hne : f.nearest neg mag p = f.word neg (min (L * f.binade + K) f.infRung) := by
      unfold Format.nearest
      rw [if_neg hm]
      have : (last - f.leastPlace).toNat = L := by omega
      show f.word neg (min ((last - f.leastPlace).toNat * f.binade + K) f.infRung) = _
      rw [this]
    have hspec := cutE_spec (mag <<< up) drop
    rw [Nat.shiftLeft_eq] at hspec
    have hKdef : K = cutE (mag * 2 ^ up) drop := by show cutE (mag <<< up) drop = _; rw [Nat.shiftLeft_eq]
    rw [← hKdef] at hspec
    have hdp : 0 < 2 ^ drop := Nat.two_pow_pos _
    have hlo : 2 ^ mag.log2 ≤ mag := Nat.log2_self_le hm
    have hhi : mag < 2 ^ (mag.log2 + 1) := Nat.lt_log2_self
    -- the cut number against the binade
    have hK2 : K ≤ 2 * f.binade := by
      have h1 : mag * 2 ^ up < 2 ^ (f.fractionBits + 1) * 2 ^ drop := by
        have h2 : mag * 2 ^ up < 2 ^ (mag.log2 + 1) * 2 ^ up := Nat.mul_lt_mul_of_pos_right hhi (Nat.two_pow_pos _)
        have h3 : 2 ^ (mag.log2 + 1) * 2 ^ up ≤ 2 ^ (f.fractionBits + 1) * 2 ^ drop := by
          rw [← Nat.pow_add, ← Nat.pow_add]
          exact Nat.pow_le_pow_right (by omega) (by omega)
        omega
      have e : 2 * f.binade = 2 ^ (f.fractionBits + 1) := by unfold Format.binade; rw [Nat.pow_succ, Nat.mul_comm]
      rw [e]
      generalize 2 ^ (f.fractionBits + 1) = C at *
      have h4 : 2 * K * 2 ^ drop < (2 * C + 1) * 2 ^ drop := by
        rw [Nat.add_mul, Nat.one_mul, Nat.mul_assoc 2 C]
        omega
      have := Nat.lt_of_mul_lt_mul_right h4
      omega
    have hlow : L = 0 ∨ 2 ^ (f.fractionBits + L) * 2 ^ B ≤ mag * 2 ^ A := by
      by_cases h0 : L = 0
      · exact .inl h0
      · right
        have hl : p + mag.log2 - f.fractionBits = last := by omega
        have e : 2 ^ (f.fractionBits + L) * 2 ^ B = 2 ^ mag.log2 * 2 ^ A := by
          rw [← Nat.pow_add, ← Nat.pow_add]; congr 1; omega
        rw [e]
        exact Nat.mul_le_mul_right _ hlo
    have hKb : L = 0 ∨ f.binade ≤ K := by
      rcases hlow with h | h
      · exact .inl h
      · right
        have h1 : f.binade * 2 ^ drop ≤ mag * 2 ^ up := by
          have h2 : f.binade * 2 ^ drop * 2 ^ (L + B) ≤ mag * 2 ^ up * 2 ^ (L + B) := by
            have e1 : f.binade * 2 ^ drop * 2 ^ (L + B) = 2 ^ (f.fractionBits + L) * 2 ^ B * 2 ^ drop := by
              unfold Format.binade; simp only [← Nat.pow_add]; congr 1; omega
            have e2 : mag * 2 ^ up * 2 ^ (L + B) = mag * 2 ^ A * 2 ^ drop := by
              rw [Nat.mul_assoc, Nat.mul_assoc, ← Nat.pow_add, ← Nat.pow_add]; congr 2; omega
            rw [e1, e2]; exact Nat.mul_le_mul_right _ h
          exact mul_le_cancel (Nat.two_pow_pos _) h2
        have h3 : 2 * f.binade * 2 ^ drop ≤ (2 * K + 1) * 2 ^ drop := by rw [Nat.mul_assoc]; omega
        have := mul_le_cancel hdp h3
        omega
    have hmg := mg_KL f L K hK2 hKb
    have hS1 : 2 * (mag * 2 ^ A) ≤ (2 * K + 1) * (2 ^ L * 2 ^ B) := by
      have h1 : 2 * (mag * 2 ^ A) * 2 ^ drop ≤ (2 * K + 1) * (2 ^ L * 2 ^ B) * 2 ^ drop := by
        have e1 : 2 * (mag * 2 ^ A) * 2 ^ drop = 2 * (mag * 2 ^ up) * (2 ^ L * 2 ^ B) := by
          rw [Nat.mul_assoc 2, Nat.mul_assoc 2, Nat.mul_assoc mag, Nat.mul_assoc mag, ← Nat.pow_add, ← Nat.pow_add, ← Nat.pow_add]; congr 3; omega
        have e2 : (2 * K + 1) * (2 ^ L * 2 ^ B) * 2 ^ drop = (2 * K + 1) * 2 ^ drop * (2 ^ L * 2 ^ B) := Nat.mul_right_comm _ _ _
        rw [e1, e2]; exact Nat.mul_le_mul_right _ hspec.1
      exact mul_le_cancel hdp h1
    have hS2 : 2 * K * (2 ^ L * 2 ^ B) ≤ 2 * (mag * 2 ^ A) + 2 ^ L * 2 ^ B := by
      have h1 : 2 * K * (2 ^ L * 2 ^ B) * 2 ^ drop ≤ (2 * (mag * 2 ^ A) + 2 ^ L * 2 ^ B) * 2 ^ drop := by
        have e1 : (2 * (mag * 2 ^ A) + 2 ^ L * 2 ^ B) * 2 ^ drop = (2 * (mag * 2 ^ up) + 2 ^ drop) * (2 ^ L * 2 ^ B) := by
          rw [Nat.add_mul, Nat.add_mul, Nat.mul_comm (2 ^ L * 2 ^ B) (2 ^ drop)]
          congr 1
          rw [Nat.mul_assoc 2, Nat.mul_assoc 2, Nat.mul_assoc mag, Nat.mul_assoc mag, ← Nat.pow_add, ← Nat.pow_add, ← Nat.pow_add]; congr 3; omega
        have e2 : 2 * K * (2 ^ L * 2 ^ B) * 2 ^ drop = 2 * K * 2 ^ drop * (2 ^ L * 2 ^ B) := Nat.mul_right_comm _ _ _
        rw [e1, e2]; exact Nat.mul_le_mul_right _ hspec.2
      exact mul_le_cancel hdp h1
    have hU : 0 < 2 ^ L * 2 ^ B := Nat.mul_pos (Nat.two_pow_pos _) hBp
    have hmgB : mg f (L * f.binade + K) * 2 ^ B = K * (2 ^ L * 2 ^ B) := by rw [hmg, Nat.mul_assoc]
    refine ⟨L * f.binade + K, L, hne, ?_, ?_, hlow, ?_, ?_⟩
    · intro s hs
      refine Nat.le_of_lt_succ ?_
      rw [Nat.succ_eq_add_one, ← mg_lt_iff f]
      have hup : (K + 1) * 2 ^ L ≤ mg f (L * f.binade + K + 1) := by
        by_cases h : K = 2 * f.binade
        · have e : L * f.binade + K + 1 = (L + 1) * f.binade + (f.binade + 1) := by rw [h, Nat.add_mul]; omega
          rw [e, mg_KL f (L + 1) (f.binade + 1) (by omega) (.inr (by omega)), h, Nat.pow_succ, Nat.mul_comm (2 ^ L) 2, ← Nat.mul_assoc]
          exact Nat.mul_le_mul_right _ (by omega)
        · rw [Nat.add_assoc, mg_KL f L (K + 1) (by omega) (by omega)]
          exact Nat.le_refl _
      have h1 : (K + 1) * (2 ^ L * 2 ^ B) ≤ mg f (L * f.binade + K + 1) * 2 ^ B := by rw [← Nat.mul_assoc]; exact Nat.mul_le_mul_right _ hup
      have h2 : mg f s * 2 ^ B < mg f (L * f.binade + K + 1) * 2 ^ B := by
        have e : (2 * K + 1) * (2 ^ L * 2 ^ B) + 2 ^ L * 2 ^ B = 2 * ((K + 1) * (2 ^ L * 2 ^ B)) := by
          generalize 2 ^ L * 2 ^ B = U
          simp only [Nat.add_mul, Nat.mul_add, Nat.mul_assoc]; omega
        omega
      exact Nat.lt_of_mul_lt_mul_right h2
    · intro s hs
      refine Nat.le_of_not_lt fun hlt => ?_
      have hlt' : mg f s < mg f (L * f.binade + K) := mg_lt f hlt
      have hle : mg f s ≤ mg f (L * f.binade + K - 1) := (mg_le_iff f).2 (by omega)
      -- K = 0 is out: then the rung is L * binade, K below the binade
      by_cases hKe : L ≠ 0 ∧ K = f.binade
      · have h1 : mg f (L * f.binade + K) * 2 ^ B ≤ mag * 2 ^ A := by
          rw [hmgB, hKe.2]
          rcases hlow with h | h
          · exact absurd h hKe.1
          · have e : f.binade * (2 ^ L * 2 ^ B) = 2 ^ (f.fractionBits + L) * 2 ^ B := by unfold Format.binade; simp only [← Nat.pow_add]; congr 1; omega
            rw [e]; exact h
        have h2 : mg f (L * f.binade + K) * 2 ^ B ≤ mg f s * 2 ^ B := Nat.le_trans h1 hs
        have := mul_le_cancel hBp h2
        omega
      · have hK1 : 1 ≤ K := by
          rcases Nat.eq_zero_or_pos K with h | h
          · have h0 : L = 0 := by omega
            rw [h, h0] at hlt; simp at hlt
          · exact h
        have hm1 : mg f (L * f.binade + K - 1) = (K - 1) * 2 ^ L := by
          rw [Nat.add_sub_assoc hK1]
          exact mg_KL f L (K - 1) (by omega) (by omega)
        rw [hm1] at hle
        have h1 : mg f s * 2 ^ B ≤ (K - 1) * (2 ^ L * 2 ^ B) := by rw [← Nat.mul_assoc]; exact Nat.mul_le_mul_right _ hle
        have e : 2 * K * (2 ^ L * 2 ^ B) = 2 * ((K - 1) * (2 ^ L * 2 ^ B)) + 2 * (2 ^ L * 2 ^ B) := by
          obtain ⟨k, hk⟩ : ∃ k, K = k + 1 := ⟨K - 1, by omega⟩
          rw [hk]
          generalize 2 ^ L * 2 ^ B = U
          simp only [Nat.add_sub_cancel, Nat.add_mul, Nat.mul_add, Nat.mul_assoc]; omega
        omega
    · rw [hmgB]
      have e : (2 * K + 1) * (2 ^ L * 2 ^ B) = 2 * (K * (2 ^ L * 2 ^ B)) + 2 ^ L * 2 ^ B := by rw [Nat.add_mul, Nat.one_mul, Nat.mul_assoc]
      omega
    · rw [hmgB]
      have e : 2 * K * (2 ^ L * 2 ^ B) = 2 * (K * (2 ^ L * 2 ^ B)) := Nat.mul_assoc _ _ _
      omega

/-- Every number of at most as many digits as a significand has is some rung's magnitude. -/
theorem mg_surj (f : Format) (m t : Nat) (h : m < 2 ^ (f.fractionBits + 1)) : ∃ s, mg f s = m * 2 ^ t := by
  by_cases hm : m = 0
  · subst hm; exact ⟨0, by rw [mg_zero, Nat.zero_mul]⟩
  · have hlo : 2 ^ m.log2 ≤ m := Nat.log2_self_le hm
    have hhi : m < 2 ^ (m.log2 + 1) := Nat.lt_log2_self
    have he : m.log2 ≤ f.fractionBits := by
      have h1 : 2 ^ m.log2 < 2 ^ (f.fractionBits + 1) := by omega
      have := (Nat.pow_lt_pow_iff_right (a := 2) (by omega)).1 h1
      omega
    by_cases ht : f.fractionBits ≤ t + m.log2
    · refine ⟨(t + m.log2 - f.fractionBits) * f.binade + m * 2 ^ (f.fractionBits - m.log2), ?_⟩
      have hK1 : f.binade ≤ m * 2 ^ (f.fractionBits - m.log2) := by
        have : 2 ^ m.log2 * 2 ^ (f.fractionBits - m.log2) ≤ m * 2 ^ (f.fractionBits - m.log2) := Nat.mul_le_mul_right _ hlo
        rw [← Nat.pow_add, show m.log2 + (f.fractionBits - m.log2) = f.fractionBits by omega] at this
        exact this
      have hK2 : m * 2 ^ (f.fractionBits - m.log2) ≤ 2 * f.binade := by
        have : m * 2 ^ (f.fractionBits - m.log2) ≤ 2 ^ (m.log2 + 1) * 2 ^ (f.fractionBits - m.log2) := Nat.mul_le_mul_right _ (by omega)
        rw [← Nat.pow_add, show m.log2 + 1 + (f.fractionBits - m.log2) = f.fractionBits + 1 by omega, Nat.pow_succ] at this
        unfold Format.binade; omega
      rw [mg_KL f _ _ hK2 (.inr hK1), Nat.mul_assoc, ← Nat.pow_add]
      congr 2; omega
    · have hv : m * 2 ^ t < f.binade := by
        have : m * 2 ^ t < 2 ^ (m.log2 + 1) * 2 ^ t := Nat.mul_lt_mul_of_pos_right hhi (Nat.two_pow_pos _)
        have h2 : 2 ^ (m.log2 + 1) * 2 ^ t ≤ 2 ^ f.fractionBits := by
          rw [← Nat.pow_add]; exact Nat.pow_le_pow_right (by omega) (by omega)
        unfold Format.binade; omega
      exact ⟨m * 2 ^ t, by unfold mg; rw [if_pos hv]⟩

/-- The significand that a finite word reads as has at most as many digits as the format gives. -/
theorem read_fin_lt (f : Format) {b : Nat} (h : rung f b < f.infRung) : ∃ m j : Nat, f.read b = .number (sgn f b) m (f.leastPlace + j) ∧ m * 2 ^ j = mg f (rung f b) ∧ m < 2 ^ (f.fractionBits + 1) := by
  have hb := binade_pos f
  have e : 2 ^ (f.fractionBits + 1) = 2 * f.binade := by unfold Format.binade; rw [Nat.pow_succ, Nat.mul_comm]
  unfold Format.read rung sgn at *
  dsimp only
  by_cases h1 : b % f.signWeight < f.binade
  · exact ⟨b % f.signWeight, 0, by rw [if_pos h1]; simp, by unfold mg; rw [if_pos h1]; simp, by omega⟩
  · refine ⟨f.binade + b % f.signWeight % f.binade, b % f.signWeight / f.binade - 1, by rw [if_neg h1, if_pos h], by unfold mg; rw [if_neg h1], ?_⟩
    have := Nat.mod_lt (b % f.signWeight) hb
    omega

theorem rung_word (f : Format) (neg : Bool) {r : Nat} (h : r ≤ f.infRung) : rung f (f.word neg r) = r := by
  have := f.infRung_lt
  exact word_mod f neg (by omega)

theorem sgn_word (f : Format) (neg : Bool) {r : Nat} (h : r ≤ f.infRung) : sgn f (f.word neg r) = neg := by
  have := f.infRung_lt
  exact word_neg f neg (by omega)

theorem isInf_read (k : FloatKind) (b : Nat) : (k.format.read b).isInfinity = decide (rung k.format b = k.format.infRung) := by
  have hf := binade_le k
  have hp := binade_pos k.format
  unfold Format.read rung
  dsimp only
  split
  · simp only [Datum.isInfinity]; symm; rw [decide_eq_false_iff_not]; omega
  · split
    · simp only [Datum.isInfinity]; symm; rw [decide_eq_false_iff_not]; omega
    · split
      · simp only [Datum.isInfinity]; symm; rw [decide_eq_true_eq]; omega
      · simp only [Datum.isInfinity]; symm; rw [decide_eq_false_iff_not]; omega

/-- Widened bits. -/
def W (b : Nat) : Nat := double.write (single.read b)
/-- Narrowed bits. -/
def N (b : Nat) : Nat := single.write (double.read b)

theorem W_fin {b : Nat} (h : rung single b < single.infRung) : mg double (rung double (W b)) = mg single (rung single b) * 2 ^ 925 ∧ sgn double (W b) = sgn single b ∧ rung double (W b) < double.infRung := by
  obtain ⟨m, j, hr, hm, hlt⟩ := read_fin_lt single h
  obtain ⟨r0, L, hne, h1, h2, _⟩ := nearest_spec double (sgn single b) m (single.leastPlace + j) (j + 925) 0 (by
    have a : single.leastPlace = -149 := by decide
    have c : double.leastPlace = -1074 := by decide
    rw [a, c]; omega)
  have hv : m * 2 ^ (j + 925) = mg single (rung single b) * 2 ^ 925 := by rw [Nat.pow_add, ← Nat.mul_assoc, hm]
  obtain ⟨s, hs⟩ := mg_surj double m (j + 925) (Nat.lt_of_lt_of_le hlt (by decide))
  have hr0 : r0 = s := by
    have a := h1 s (by rw [hs]; simp)
    have c := h2 s (by rw [hs]; simp)
    omega
  have hlt : s < double.infRung := by
    rw [← mg_lt_iff double, hs, hv]
    have : mg single (rung single b) ≤ mg single (single.infRung - 1) := (mg_le_iff single).2 (by omega)
    have h3 : mg single (single.infRung - 1) * 2 ^ 925 < mg double double.infRung := by decide +kernel
    have h4 := Nat.mul_le_mul_right (2 ^ 925) this
    omega
  have hW : W b = double.word (sgn single b) s := by
    unfold W; rw [hr]
    show double.nearest _ _ _ = _
    rw [hne, hr0, Nat.min_eq_left (by omega)]
  rw [hW, rung_word double _ (by omega), sgn_word double _ (by omega), hs, hv]
  exact ⟨rfl, rfl, hlt⟩

theorem W_inf {b : Nat} (h : rung single b = single.infRung) : rung double (W b) = double.infRung ∧ sgn double (W b) = sgn single b := by
  unfold W
  rw [read_inf single (by decide) h]
  exact ⟨rung_word double _ (Nat.le_refl _), sgn_word double _ (Nat.le_refl _)⟩

/-- Narrowing: the rung is at most s where the magnitude is at most s's. -/
theorem N_le {b s : Nat} (h : rung double b < double.infRung) (hs : mg double (rung double b) ≤ mg single s * 2 ^ 925) (hsi : s ≤ single.infRung) : rung single (N b) ≤ s ∧ sgn single (N b) = sgn double b := by
  obtain ⟨m, j, hr, hm, hlt⟩ := read_fin_lt double h
  obtain ⟨r0, L, hne, h1, h2, _⟩ := nearest_spec single (sgn double b) m (double.leastPlace + j) j 925 (by
    have a : single.leastPlace = -149 := by decide
    have c : double.leastPlace = -1074 := by decide
    rw [a, c]; omega)
  have hr0 : r0 ≤ s := h2 s (by rw [hm]; exact hs)
  have hN : N b = single.word (sgn double b) r0 := by
    unfold N; rw [hr]
    show single.nearest _ _ _ = _
    rw [hne, Nat.min_eq_left (by omega)]
  rw [hN, rung_word single _ (by omega), sgn_word single _ (by omega)]
  exact ⟨hr0, rfl⟩

/-- Widening and narrowing on values. -/
def wid (X : Option Nat) : Option Nat := X.map W
def nar (X : Option Nat) : Option Nat := X.map N

/-- A value that is narrowed without passing the greatest number. -/
def NarOk (X : Option Nat) : Prop := ∀ b, X = some b → rung double b = double.infRung ∨ rung single (N b) < single.infRung

theorem NarOk.none : NarOk none := fun _ h => by cases h

theorem NarOk.of_le {b : Nat} (hs : mg double (rung double b) ≤ mg single (single.infRung - 1) * 2 ^ 925) : NarOk (some b) := by
  intro b' h; cases h
  right
  have h : rung double b < double.infRung := by
    rw [← mg_lt_iff double]
    have : mg single (single.infRung - 1) * 2 ^ 925 < mg double double.infRung := by decide +kernel
    omega
  have := (N_le h hs (by decide)).1
  have h3 : single.infRung - 1 < single.infRung := by decide
  omega

section
variable {P : Program}

theorem run_widen (src dst : TypeId) (x : Nat) (hs : (P.underlying src).isSome = true) (hd : P.underlying dst = some (.float .f64)) (w : World) :
    ∃ r n, (convert src dst (.float .f32 x)).run P w = .ok (.float .f64 r) (w.drewN n) ∧ FR .f64 r (wid (Fl.val .f32 x)) := by
  obtain ⟨u, hs'⟩ := Option.isSome_iff_exists.1 hs
  rcases val_cases .f32 x with hx | hx
  · have hle := (nn_iff .f32 x).1 hx
    have key : floatToFloatBits .f32 x .f64 = some (W x) := by
      unfold floatToFloatBits
      rw [if_neg (by decide)]
      rcases Nat.lt_or_ge (rung single x) single.infRung with h | h
      · obtain ⟨m, j, hr, _⟩ := read_fin_lt single h
        have hw := (W_fin h).2.2
        show (match FloatKind.f32.format.read x with | .nan _ _ => none | .infinity s => some _ | .number s m e => _) = _
        have hr' : FloatKind.f32.format.read x = .number (sgn single x) m (single.leastPlace + j) := hr
        rw [hr']
        have hWx : FloatKind.f64.encode (.number (sgn single x) m (single.leastPlace + j)) = W x := by unfold W; rw [hr]; rfl
        simp only [hWx]
        rw [if_neg]
        show ¬ (FloatKind.f64.format.read (W x)).isInfinity = true
        rw [isInf_read]
        simp only [decide_eq_true_eq]
        exact Nat.ne_of_lt hw
      · have h' : rung single x = single.infRung := by have : rung single x ≤ single.infRung := hle; omega
        have hr : FloatKind.f32.format.read x = .infinity (sgn single x) := read_inf single (by decide) h'
        show (match FloatKind.f32.format.read x with | .nan _ _ => none | .infinity s => some _ | .number s m e => _) = _
        rw [hr]
        have : W x = FloatKind.f64.encode (.infinity (sgn single x)) := by unfold W; rw [show single.read x = .infinity (sgn single x) from hr]; rfl
        simp only [this]
    refine ⟨W x, 0, by rw [run_convert_float_float w src dst .f32 .f64 x (W x) hs hd key]; rfl, ?_, ?_⟩
    · exact double.write_lt _
    · rw [hx]
      show Fl.val .f64 (W x) = some (W x)
      refine (nn_iff .f64 _).2 ?_
      show rung double (W x) ≤ double.infRung
      rcases Nat.lt_or_ge (rung single x) single.infRung with h | h
      · exact Nat.le_of_lt (W_fin h).2.2
      · have h' : rung single x = single.infRung := by have : rung single x ≤ single.infRung := hle; omega
        rw [(W_inf h').1]; exact Nat.le_refl _
  · obtain ⟨s, t, hr⟩ := nan_of_val hx
    have hn := nan_cut .f64 (.nanConv .f64 x) (w.tape w.drawn (.nanConv .f64 x)) (.inr ⟨x, rfl⟩)
    refine ⟨_, 1, ?_, hn.1, by rw [hx]; exact hn.2⟩
    have hr' : FloatKind.f32.decode x = .nan s t := hr
    cases u <;> simp [convert, run_underlying hs', run_underlying hd, Conv.floatToFloat, hr', choose, Sem.run, Question.forced] <;> rfl

theorem run_narrow (src dst : TypeId) (x : Nat) (hs : (P.underlying src).isSome = true) (hd : P.underlying dst = some (.float .f32)) (w : World) (hok : NarOk (Fl.val .f64 x)) :
    ∃ r n, (convert src dst (.float .f64 x)).run P w = .ok (.float .f32 r) (w.drewN n) ∧ FR .f32 r (nar (Fl.val .f64 x)) := by
  obtain ⟨u, hs'⟩ := Option.isSome_iff_exists.1 hs
  rcases val_cases .f64 x with hx | hx
  · have hle := (nn_iff .f64 x).1 hx
    have hN : Fl.val .f32 (N x) = some (N x) := by
      refine write_val .f32 ?_
      have := nn_of_val hx
      exact this
    have key : floatToFloatBits .f64 x .f32 = some (N x) := by
      unfold floatToFloatBits
      rw [if_neg (by decide)]
      rcases Nat.lt_or_ge (rung double x) double.infRung with h | h
      · obtain ⟨m, j, hr, _⟩ := read_fin_lt double h
        show (match FloatKind.f64.format.read x with | .nan _ _ => none | .infinity s => some _ | .number s m e => _) = _
        have hr' : FloatKind.f64.format.read x = .number (sgn double x) m (double.leastPlace + j) := hr
        rw [hr']
        have hNx : FloatKind.f32.encode (.number (sgn double x) m (double.leastPlace + j)) = N x := by unfold N; rw [hr]; rfl
        simp only [hNx]
        rw [if_neg]
        show ¬ (FloatKind.f32.format.read (N x)).isInfinity = true
        rw [isInf_read]
        simp only [decide_eq_true_eq]
        rcases hok x hx with h' | h'
        · omega
        · exact Nat.ne_of_lt h'
      · have h' : rung double x = double.infRung := by have : rung double x ≤ double.infRung := hle; omega
        have hr : FloatKind.f64.format.read x = .infinity (sgn double x) := read_inf double (by decide) h'
        show (match FloatKind.f64.format.read x with | .nan _ _ => none | .infinity s => some _ | .number s m e => _) = _
        rw [hr]
        have : N x = FloatKind.f32.encode (.infinity (sgn double x)) := by unfold N; rw [show double.read x = .infinity (sgn double x) from hr]; rfl
        simp only [this]
    refine ⟨N x, 0, by rw [run_convert_float_float w src dst .f64 .f32 x (N x) hs hd key]; rfl, single.write_lt _, ?_⟩
    rw [hx]; exact hN
  · obtain ⟨s, t, hr⟩ := nan_of_val hx
    have hn := nan_cut .f32 (.nanConv .f32 x) (w.tape w.drawn (.nanConv .f32 x)) (.inr ⟨x, rfl⟩)
    refine ⟨_, 1, ?_, hn.1, by rw [hx]; exact hn.2⟩
    have hr' : FloatKind.f64.decode x = .nan s t := hr
    cases u <;> simp [convert, run_underlying hs', run_underlying hd, Conv.floatToFloat, hr', choose, Sem.run, Question.forced] <;> rfl
end

end Go.Proofs.Ytnibobbfepdeiaa.Fl
namespace Go.Proofs.Ytnibobbfepdeiaa
open Fl Go.RowKit
set_option linter.unusedVariables false

@[go_sem] theorem unary_neg_f32 (b : Nat) : Op.unary .neg (.float .f32 b) = pure (.float .f32 (b ^^^ 2147483648)) := rfl
@[go_sem] theorem unary_neg_f64 (b : Nat) : Op.unary .neg (.float .f64 b) = pure (.float .f64 (b ^^^ 9223372036854775808)) := rfl

section
variable {P : Program} {ops : Array Oper} {Q : Exit → Act → World → Prop} {a : Act} {w : World} {rest : List Oper} {o : Oper}

theorem run_float_guard (op : BinOp) (t : TypeId) (x y : Operand) (k : FloatKind) (bx bz : Nat) (w : World) :
    (eqGuard op t x y (.float k bx) (.float k bz)).run P w = .ok () w := by
  cases op <;> rfl

/-- An operation that is wanted and whose run is known. -/
theorem wpList_ran (hw : Region.wanted o (yielded ops a.tmps) = true) {v : Value} {w' : World} (e : (execOp a.eval o).run P w = .ok (.value v) w')
    (h : wpList P ops Q rest (a.put o.dst v) w') : wpList P ops Q (o :: rest) a w := by
  unfold wpList
  rw [if_pos hw]
  left
  unfold Oper.wp
  rw [e]
  exact h

/-- '+', '-', '*', '/' of floats. -/
theorem wpList_fbin (hw : Region.wanted o (yielded ops a.tmps) = true) (op : BinOp) (t t' : TypeId) (x y : Operand) (ho : o.op = .binOp op t x y t')
    (hop : op = .add ∨ op = .sub ∨ op = .mul ∨ op = .quo) (k : FloatKind) (bx bz : Nat) (hx : a.eval x = .float k bx) (hy : a.eval y = .float k bz)
    (h : ∀ r n, FR k r (bin op k (val k bx) (val k bz)) → wpList P ops Q rest (a.put o.dst (.float k r)) (w.drewN n)) : wpList P ops Q (o :: rest) a w := by
  obtain ⟨r, n, hr, hf⟩ := run_arith (P := P) op hop t k bx bz w
  refine wpList_ran hw (v := .float k r) (w' := w.drewN n) ?_ (h r n hf)
  unfold execOp
  rw [ho]
  simp only [hx, hy]
  have hq := run_float_guard (P := P) op t x y k bx bz w
  simp [hq, hr]

/-- float64(x) of a float32. -/
theorem wpList_widen (hw : Region.wanted o (yielded ops a.tmps) = true) (src dst : TypeId) (x : Operand) (ho : o.op = .convert src dst x)
    (bx : Nat) (hx : a.eval x = .float .f32 bx) (hs : (P.underlying src).isSome = true) (hd : P.underlying dst = some (.float .f64))
    (h : ∀ r n, FR .f64 r (wid (val .f32 bx)) → wpList P ops Q rest (a.put o.dst (.float .f64 r)) (w.drewN n)) : wpList P ops Q (o :: rest) a w := by
  obtain ⟨r, n, hr, hf⟩ := run_widen (P := P) src dst bx hs hd w
  refine wpList_ran hw (v := .float .f64 r) (w' := w.drewN n) ?_ (h r n hf)
  unfold execOp
  rw [ho]
  simp only [hx]
  simp [hr]

/-- float32(x) of a float64 that is not too great. -/
theorem wpList_narrow (hw : Region.wanted o (yielded ops a.tmps) = true) (src dst : TypeId) (x : Operand) (ho : o.op = .convert src dst x)
    (bx : Nat) (hx : a.eval x = .float .f64 bx) (hs : (P.underlying src).isSome = true) (hd : P.underlying dst = some (.float .f32)) (hok : NarOk (val .f64 bx))
    (h : ∀ r n, FR .f32 r (nar (val .f64 bx)) → wpList P ops Q rest (a.put o.dst (.float .f32 r)) (w.drewN n)) : wpList P ops Q (o :: rest) a w := by
  obtain ⟨r, n, hr, hf⟩ := run_narrow (P := P) src dst bx hs hd w hok
  refine wpList_ran hw (v := .float .f32 r) (w' := w.drewN n) ?_ (h r n hf)
  unfold execOp
  rw [ho]
  simp only [hx]
  simp [hr]
end
end Go.Proofs.Ytnibobbfepdeiaa
namespace Go.Proofs.Ytnibobbfepdeiaa
open Fl Go.RowKit
set_option linter.unusedVariables false

theorem order_self {k : FloatKind} {x : Nat} (h : val k x = some x) : k.format.order x x = some .eq := by
  rw [order_key k ((nn_iff k x).1 h) ((nn_iff k x).1 h)]
  congr 1
  rw [Int.compare_eq_eq]

theorem order_nan {k : FloatKind} {x : Nat} (y : Nat) (h : val k x = none) : k.format.order x y = none := by
  rw [order_cmp, h]; rfl

end Go.Proofs.Ytnibobbfepdeiaa
namespace Go.Proofs.Ytnibobbfepdeiaa
open Fl Go.RowKit
set_option linter.unusedVariables false

@[go_sem] theorem ext_f64bits (b : Nat) (w : World) : (callFunc 117 #[.float .f64 b]).run Try.prog w = .ok (.value (.int .u64 b)) w := by rw [run_callFunc_extern Try.func117 (by kernel_rfl) (by kernel_rfl) (by kernel_rfl) (e := Extern.MathFloatBits.float64bits) (by kernel_rfl)]; rfl

@[go_sem] theorem ext_f64from (n : Int) (w : World) : (callFunc 116 #[.int .u64 n]).run Try.prog w = .ok (.value (.float .f64 n.toNat)) w := by rw [run_callFunc_extern Try.func116 (by kernel_rfl) (by kernel_rfl) (by kernel_rfl) (e := Extern.MathFloatBits.float64frombits) (by kernel_rfl)]; rfl

@[go_sem] theorem ext_sqrt (b : Nat) (w : World) : (callFunc 134 #[.float .f64 b]).run Try.prog w = ((Extern.MathSqrt.sqrt #[.float .f64 b]).run Try.prog w).andThen fun v w' => .ok (.value v) w' := by rw [run_callFunc_extern Try.func134 (by kernel_rfl) (by kernel_rfl) (by kernel_rfl) (e := Extern.MathSqrt.sqrt) (by kernel_rfl)]

end Go.Proofs.Ytnibobbfepdeiaa
namespace Go.Proofs.Ytnibobbfepdeiaa
open Fl Ieee
set_option linter.unusedVariables false

theorem f32_split {b : Nat} (h : b < 4294967296) : rung single b = b % 2147483648 ∧ sgn single b = decide (2147483648 ≤ b) := by
  refine ⟨rfl, ?_⟩
  unfold sgn
  rw [show single.signWeight = 2147483648 from rfl]
  by_cases hb : 2147483648 ≤ b
  · rw [decide_eq_true hb, show b / 2147483648 = 1 by omega]; rfl
  · rw [decide_eq_false hb, show b / 2147483648 = 0 by omega]; rfl

theorem f64_split {b : Nat} (h : b < 18446744073709551616) : rung double b = b % 9223372036854775808 ∧ sgn double b = decide (9223372036854775808 ≤ b) := by
  refine ⟨rfl, ?_⟩
  unfold sgn
  rw [show double.signWeight = 9223372036854775808 from rfl]
  by_cases hb : 9223372036854775808 ≤ b
  · rw [decide_eq_true hb, show b / 9223372036854775808 = 1 by omega]; rfl
  · rw [decide_eq_false hb, show b / 9223372036854775808 = 0 by omega]; rfl

/-- Bits below 2^32 by sign and rung. -/
theorem f32_ext {a b : Nat} (ha : a < 4294967296) (hb : b < 4294967296) (hr : rung single a = rung single b) (hs : sgn single a = sgn single b) : a = b := by
  rw [(f32_split ha).1, (f32_split hb).1] at hr
  rw [(f32_split ha).2, (f32_split hb).2, decide_eq_decide] at hs
  omega

theorem val64 (b : Nat) : val .f64 b = if b % 9223372036854775808 ≤ 9218868437227405312 then some b else none := by
  by_cases h : b % 9223372036854775808 ≤ 9218868437227405312
  · rw [if_pos h]; exact (nn_iff .f64 b).2 h
  · rw [if_neg h]
    rcases val_cases .f64 b with h' | h'
    · exact absurd ((nn_iff .f64 b).1 h') h
    · exact h'
end Go.Proofs.Ytnibobbfepdeiaa
namespace Go.Proofs.Ytnibobbfepdeiaa
open Fl Ieee Go.RowKit
set_option linter.unusedVariables false

theorem wid_some {x r : Nat} (hv : val .f32 x = some x) (hr : FR .f64 r (wid (val .f32 x))) : r = W x := by
  have h := hr.val
  rw [hv] at h
  exact (val_some h).symm

end Go.Proofs.Ytnibobbfepdeiaa
namespace Go.Proofs.Ytnibobbfepdeiaa
open Go.RowKit
set_option linter.unusedVariables false

def inR (n lo hi : Int) : Bool := decide (lo ≤ n ∧ n ≤ hi)
theorem inR_true {n lo hi : Int} (h0 : lo ≤ n) (h1 : n ≤ hi) : inR n lo hi = true := decide_eq_true ⟨h0, h1⟩
theorem inR_false {n lo hi : Int} (h : n < lo ∨ hi < n) : inR n lo hi = false := decide_eq_false (by omega)

theorem spec_l00In (n lo hi : Int) (w : World) : Calls Try.prog 54 #[.int .i64 n, .int .i64 lo, .int .i64 hi] w fun e w' => e = .returned (.bool (inR n lo hi)) ∧ w' = w := by
  by_cases h0 : lo ≤ n
  · by_cases h1 : n ≤ hi
    · go_enter Try.func54, Try.ntmps54
      go_wp2
      go_ret
      exact ⟨by rw [inR_true h0 h1]; rfl, rfl⟩
    · have hd : decide (n ≤ hi) = false := decide_eq_false h1
      go_enter Try.func54, Try.ntmps54
      go_wp2
      go_ret
      exact ⟨by rw [inR_false (by omega)]; rfl, rfl⟩
  · have hd : decide (lo ≤ n) = false := decide_eq_false h0
    go_enter Try.func54, Try.ntmps54
    go_wp2
    go_ret
    exact ⟨by rw [inR_false (by omega)]; rfl, rfl⟩

theorem impl_within (n lo hi : Int) (w : World) : Calls Try.prog 58 #[.int .i64 n, .int .i64 lo, .int .i64 hi] w fun e w' => e = .returned (.bool (inR n lo hi)) ∧ w' = w := by
  by_cases h0 : lo ≤ n
  · by_cases h1 : n ≤ hi
    · go_enter Try.func58, Try.ntmps58
      go_wp2
      go_ret
      exact ⟨by rw [inR_true h0 h1]; rfl, rfl⟩
    · have hd : decide (n ≤ hi) = false := decide_eq_false h1
      go_enter Try.func58, Try.ntmps58
      go_wp2
      go_ret
      exact ⟨by rw [inR_false (by omega)]; rfl, rfl⟩
  · have hd : decide (lo ≤ n) = false := decide_eq_false h0
    go_enter Try.func58, Try.ntmps58
    go_wp2
    go_ret
    exact ⟨by rw [inR_false (by omega)]; rfl, rfl⟩

end Go.Proofs.Ytnibobbfepdeiaa
namespace Go.Proofs.Ytnibobbfepdeiaa
open Fl Ieee Go.RowKit
set_option linter.unusedVariables false

end Go.Proofs.Ytnibobbfepdeiaa
namespace Go.Proofs.Ytnibobbfepdeiaa
open Fl Go.RowKit
set_option linter.unusedVariables false

@[go_sem] theorem run_store_float {P : Program} {w : World} {a : Addr} {m : Mode} (k : FloatKind) (b : Nat) : (store a (.float k b) m).run P w = stored P w a (.float k b) m := run_store P w a _ m rfl

theorem setCell_same_of {w : World} {a : Addr} {v : Value} (h : (w.cell? a).isSome = true) : (w.setCell a v).cell? a = some v := by
  obtain ⟨u, hu⟩ := Option.isSome_iff_exists.1 h
  exact World.cell?_setCell_same _ _ _ hu

theorem Below.drewN {B : Nat} {a w : World} (h : Below B a w) (n : Nat) : Below B a (w.drewN n) := ⟨h.os, h.tape, h.output, h.size, h.block⟩

end Go.Proofs.Ytnibobbfepdeiaa
namespace Go.Proofs.Ytnibobbfepdeiaa
open Fl Go.RowKit
set_option linter.unusedVariables false

theorem spec_l01Add (a b c x y z : Nat) (w : World) : Calls Try.prog 67 #[.agg #[.float .f32 a, .float .f32 b, .float .f32 c], .agg #[.float .f32 x, .float .f32 y, .float .f32 z]] w fun e w' => ∃ p q r, e = .returned (.agg #[.float .f32 p, .float .f32 q, .float .f32 r]) ∧ FR .f32 p (bin .add .f32 (val .f32 a) (val .f32 x)) ∧ FR .f32 q (bin .add .f32 (val .f32 b) (val .f32 y)) ∧ FR .f32 r (bin .add .f32 (val .f32 c) (val .f32 z)) ∧ Below w.heap.size w w' := by
  go_enter Try.func67, Try.ntmps67
  go_wp2_with (first | (refine wpList_fbin (o := ⟨some 9, _, _, _, _, _⟩) rfl _ _ _ _ _ rfl (by decide) _ _ _ rfl rfl ?_; intro p np hp) | (refine wpList_fbin (o := ⟨some 14, _, _, _, _, _⟩) rfl _ _ _ _ _ rfl (by decide) _ _ _ rfl rfl ?_; intro q nq hq) | (refine wpList_fbin (o := ⟨some 19, _, _, _, _, _⟩) rfl _ _ _ _ _ rfl (by decide) _ _ _ rfl rfl ?_; intro r nr hr) | fail)
  go_returns
  refine ⟨p, q, r, rfl, hp, hq, hr, ?_⟩
  (repeat (first | exact Below.refl _ _ | assumption | (refine Below.drewN ?_ _) | (refine Below.setCell ?_ (by first | (simp; done) | (simp; omega)) _) | (refine Below.drew ?_) | (refine Below.alloc ?_ (by first | (simp; done) | (simp; omega)) _)))

theorem impl_LessVectors (a b c x y z : Nat) (w : World) : Calls Try.prog 104 #[.agg #[.float .f32 a, .float .f32 b, .float .f32 c], .agg #[.float .f32 x, .float .f32 y, .float .f32 z]] w fun e w' => ∃ p q r, e = .returned (.agg #[.float .f32 p, .float .f32 q, .float .f32 r]) ∧ FR .f32 p (bin .sub .f32 (val .f32 a) (val .f32 x)) ∧ FR .f32 q (bin .sub .f32 (val .f32 b) (val .f32 y)) ∧ FR .f32 r (bin .sub .f32 (val .f32 c) (val .f32 z)) ∧ Below w.heap.size w w' := by
  go_enter Try.func104, Try.ntmps104
  go_wp2_with (first | (refine wpList_fbin (o := ⟨some 9, _, _, _, _, _⟩) rfl _ _ _ _ _ rfl (by decide) _ _ _ rfl rfl ?_; intro p np hp) | (refine wpList_fbin (o := ⟨some 14, _, _, _, _, _⟩) rfl _ _ _ _ _ rfl (by decide) _ _ _ rfl rfl ?_; intro q nq hq) | (refine wpList_fbin (o := ⟨some 19, _, _, _, _, _⟩) rfl _ _ _ _ _ rfl (by decide) _ _ _ rfl rfl ?_; intro r nr hr) | fail)
  go_returns
  refine ⟨p, q, r, rfl, hp, hq, hr, ?_⟩
  (repeat (first | exact Below.refl _ _ | assumption | (refine Below.drewN ?_ _) | (refine Below.setCell ?_ (by first | (simp; done) | (simp; omega)) _) | (refine Below.drew ?_) | (refine Below.alloc ?_ (by first | (simp; done) | (simp; omega)) _)))

theorem impl_ScaleVector (a b c x : Nat) (w : World) : Calls Try.prog 76 #[.agg #[.float .f32 a, .float .f32 b, .float .f32 c], .float .f32 x] w fun e w' => ∃ p q r, e = .returned (.agg #[.float .f32 p, .float .f32 q, .float .f32 r]) ∧ FR .f32 p (bin .mul .f32 (val .f32 a) (val .f32 x)) ∧ FR .f32 q (bin .mul .f32 (val .f32 b) (val .f32 x)) ∧ FR .f32 r (bin .mul .f32 (val .f32 c) (val .f32 x)) ∧ Below w.heap.size w w' := by
  go_enter Try.func76, Try.ntmps76
  go_wp2_with (first | (refine wpList_fbin (o := ⟨some 8, _, _, _, _, _⟩) rfl _ _ _ _ _ rfl (by decide) _ _ _ rfl rfl ?_; intro p np hp) | (refine wpList_fbin (o := ⟨some 12, _, _, _, _, _⟩) rfl _ _ _ _ _ rfl (by decide) _ _ _ rfl rfl ?_; intro q nq hq) | (refine wpList_fbin (o := ⟨some 16, _, _, _, _, _⟩) rfl _ _ _ _ _ rfl (by decide) _ _ _ rfl rfl ?_; intro r nr hr) | fail)
  go_returns
  refine ⟨p, q, r, rfl, hp, hq, hr, ?_⟩
  (repeat (first | exact Below.refl _ _ | assumption | (refine Below.drewN ?_ _) | (refine Below.setCell ?_ (by first | (simp; done) | (simp; omega)) _) | (refine Below.drew ?_) | (refine Below.alloc ?_ (by first | (simp; done) | (simp; omega)) _)))

theorem spec_l01Scale (a b c x : Nat) (w : World) : Calls Try.prog 98 #[.agg #[.float .f32 a, .float .f32 b, .float .f32 c], .float .f32 x] w fun e w' => ∃ p q r, e = .returned (.agg #[.float .f32 p, .float .f32 q, .float .f32 r]) ∧ FR .f32 p (bin .mul .f32 (val .f32 a) (val .f32 x)) ∧ FR .f32 q (bin .mul .f32 (val .f32 b) (val .f32 x)) ∧ FR .f32 r (bin .mul .f32 (val .f32 c) (val .f32 x)) ∧ Below w.heap.size w w' := by
  go_enter Try.func98, Try.ntmps98
  go_wp2_with (first | (refine wpList_fbin (o := ⟨some 8, _, _, _, _, _⟩) rfl _ _ _ _ _ rfl (by decide) _ _ _ rfl rfl ?_; intro p np hp) | (refine wpList_fbin (o := ⟨some 12, _, _, _, _, _⟩) rfl _ _ _ _ _ rfl (by decide) _ _ _ rfl rfl ?_; intro q nq hq) | (refine wpList_fbin (o := ⟨some 16, _, _, _, _, _⟩) rfl _ _ _ _ _ rfl (by decide) _ _ _ rfl rfl ?_; intro r nr hr) | fail)
  go_returns
  refine ⟨p, q, r, rfl, hp, hq, hr, ?_⟩
  (repeat (first | exact Below.refl _ _ | assumption | (refine Below.drewN ?_ _) | (refine Below.setCell ?_ (by first | (simp; done) | (simp; omega)) _) | (refine Below.drew ?_) | (refine Below.alloc ?_ (by first | (simp; done) | (simp; omega)) _)))

theorem impl_InnerOf (a b c x y z : Nat) (w : World) : Calls Try.prog 102 #[.agg #[.float .f32 a, .float .f32 b, .float .f32 c], .agg #[.float .f32 x, .float .f32 y, .float .f32 z]] w fun e w' => ∃ r, e = .returned (.float .f32 r) ∧ FR .f32 r (bin .add .f32 (bin .add .f32 (bin .mul .f32 (val .f32 a) (val .f32 x)) (bin .mul .f32 (val .f32 b) (val .f32 y))) (bin .mul .f32 (val .f32 c) (val .f32 z))) ∧ Below w.heap.size w w' := by
  go_enter Try.func102, Try.ntmps102
  go_wp2_with (first | (refine wpList_fbin (o := ⟨some 9, _, _, _, _, _⟩) rfl _ _ _ _ _ rfl (by decide) _ _ _ rfl rfl ?_; intro p np hp) | (refine wpList_fbin (o := ⟨some 14, _, _, _, _, _⟩) rfl _ _ _ _ _ rfl (by decide) _ _ _ rfl rfl ?_; intro q nq hq) | (refine wpList_fbin (o := ⟨some 15, _, _, _, _, _⟩) rfl _ _ _ _ _ rfl (by decide) _ _ _ rfl rfl ?_; intro s ns hs; rw [hp.val, hq.val] at hs) | (refine wpList_fbin (o := ⟨some 20, _, _, _, _, _⟩) rfl _ _ _ _ _ rfl (by decide) _ _ _ rfl rfl ?_; intro t nt ht) | (refine wpList_fbin (o := ⟨some 21, _, _, _, _, _⟩) rfl _ _ _ _ _ rfl (by decide) _ _ _ rfl rfl ?_; intro r nr hr; rw [hs.val, ht.val] at hr) | fail)
  go_ret
  refine ⟨r, rfl, hr, ?_⟩
  (repeat (first | exact Below.refl _ _ | assumption | (refine Below.drewN ?_ _) | (refine Below.setCell ?_ (by first | (simp; done) | (simp; omega)) _) | (refine Below.drew ?_) | (refine Below.alloc ?_ (by first | (simp; done) | (simp; omega)) _)))

theorem spec_l01Inner (a b c x y z : Nat) (w : World) : Calls Try.prog 120 #[.agg #[.float .f32 a, .float .f32 b, .float .f32 c], .agg #[.float .f32 x, .float .f32 y, .float .f32 z]] w fun e w' => ∃ r, e = .returned (.float .f32 r) ∧ FR .f32 r (bin .add .f32 (bin .add .f32 (bin .mul .f32 (val .f32 a) (val .f32 x)) (bin .mul .f32 (val .f32 b) (val .f32 y))) (bin .mul .f32 (val .f32 c) (val .f32 z))) ∧ Below w.heap.size w w' := by
  go_enter Try.func120, Try.ntmps120
  go_wp2_with (first | (refine wpList_fbin (o := ⟨some 9, _, _, _, _, _⟩) rfl _ _ _ _ _ rfl (by decide) _ _ _ rfl rfl ?_; intro p np hp) | (refine wpList_fbin (o := ⟨some 14, _, _, _, _, _⟩) rfl _ _ _ _ _ rfl (by decide) _ _ _ rfl rfl ?_; intro q nq hq) | (refine wpList_fbin (o := ⟨some 15, _, _, _, _, _⟩) rfl _ _ _ _ _ rfl (by decide) _ _ _ rfl rfl ?_; intro s ns hs; rw [hp.val, hq.val] at hs) | (refine wpList_fbin (o := ⟨some 20, _, _, _, _, _⟩) rfl _ _ _ _ _ rfl (by decide) _ _ _ rfl rfl ?_; intro t nt ht) | (refine wpList_fbin (o := ⟨some 21, _, _, _, _, _⟩) rfl _ _ _ _ _ rfl (by decide) _ _ _ rfl rfl ?_; intro r nr hr; rw [hs.val, ht.val] at hr) | fail)
  go_ret
  refine ⟨r, rfl, hr, ?_⟩
  (repeat (first | exact Below.refl _ _ | assumption | (refine Below.drewN ?_ _) | (refine Below.setCell ?_ (by first | (simp; done) | (simp; omega)) _) | (refine Below.drew ?_) | (refine Below.alloc ?_ (by first | (simp; done) | (simp; omega)) _)))

theorem impl_CrossOf (a b c x y z : Nat) (w : World) : Calls Try.prog 103 #[.agg #[.float .f32 a, .float .f32 b, .float .f32 c], .agg #[.float .f32 x, .float .f32 y, .float .f32 z]] w fun e w' => ∃ p q r, e = .returned (.agg #[.float .f32 p, .float .f32 q, .float .f32 r]) ∧ FR .f32 p (bin .sub .f32 (bin .mul .f32 (val .f32 b) (val .f32 z)) (bin .mul .f32 (val .f32 c) (val .f32 y))) ∧ FR .f32 q (bin .sub .f32 (bin .mul .f32 (val .f32 c) (val .f32 x)) (bin .mul .f32 (val .f32 a) (val .f32 z))) ∧ FR .f32 r (bin .sub .f32 (bin .mul .f32 (val .f32 a) (val .f32 y)) (bin .mul .f32 (val .f32 b) (val .f32 x))) ∧ Below w.heap.size w w' := by
  go_enter Try.func103, Try.ntmps103
  go_wp2_with (first | (refine wpList_fbin (o := ⟨some 9, _, _, _, _, _⟩) rfl _ _ _ _ _ rfl (by decide) _ _ _ rfl rfl ?_; intro s1 ns1 hs1) | (refine wpList_fbin (o := ⟨some 14, _, _, _, _, _⟩) rfl _ _ _ _ _ rfl (by decide) _ _ _ rfl rfl ?_; intro s2 ns2 hs2) | (refine wpList_fbin (o := ⟨some 15, _, _, _, _, _⟩) rfl _ _ _ _ _ rfl (by decide) _ _ _ rfl rfl ?_; intro p np hp; rw [hs1.val, hs2.val] at hp) | (refine wpList_fbin (o := ⟨some 20, _, _, _, _, _⟩) rfl _ _ _ _ _ rfl (by decide) _ _ _ rfl rfl ?_; intro s3 ns3 hs3) | (refine wpList_fbin (o := ⟨some 25, _, _, _, _, _⟩) rfl _ _ _ _ _ rfl (by decide) _ _ _ rfl rfl ?_; intro s4 ns4 hs4) | (refine wpList_fbin (o := ⟨some 26, _, _, _, _, _⟩) rfl _ _ _ _ _ rfl (by decide) _ _ _ rfl rfl ?_; intro q nq hq; rw [hs3.val, hs4.val] at hq) | (refine wpList_fbin (o := ⟨some 31, _, _, _, _, _⟩) rfl _ _ _ _ _ rfl (by decide) _ _ _ rfl rfl ?_; intro s5 ns5 hs5) | (refine wpList_fbin (o := ⟨some 36, _, _, _, _, _⟩) rfl _ _ _ _ _ rfl (by decide) _ _ _ rfl rfl ?_; intro s6 ns6 hs6) | (refine wpList_fbin (o := ⟨some 37, _, _, _, _, _⟩) rfl _ _ _ _ _ rfl (by decide) _ _ _ rfl rfl ?_; intro r nr hr; rw [hs5.val, hs6.val] at hr) | fail)
  go_returns
  refine ⟨p, q, r, rfl, hp, hq, hr, ?_⟩
  (repeat (first | exact Below.refl _ _ | assumption | (refine Below.drewN ?_ _) | (refine Below.setCell ?_ (by first | (simp; done) | (simp; omega)) _) | (refine Below.drew ?_) | (refine Below.alloc ?_ (by first | (simp; done) | (simp; omega)) _)))

end Go.Proofs.Ytnibobbfepdeiaa
namespace Go.Proofs.Ytnibobbfepdeiaa
open Fl Go.RowKit
set_option linter.unusedVariables false

end Go.Proofs.Ytnibobbfepdeiaa
namespace Go.Proofs.Ytnibobbfepdeiaa
open Fl Go.RowKit
set_option linter.unusedVariables false

end Go.Proofs.Ytnibobbfepdeiaa
namespace Go.Proofs.Ytnibobbfepdeiaa
open Fl Ieee Go.RowKit
set_option linter.unusedVariables false

theorem math_Signbit (x : Nat) (hx : x < 18446744073709551616) (w : World) : Calls Try.prog 122 #[.float .f64 x] w fun e w' => e = .returned (.bool (decide (9223372036854775808 ≤ x))) ∧ w' = w := by
  by_cases h : 9223372036854775808 ≤ x
  · have h1 : IntKind.i64.wrap (x : Int) = x - 18446744073709551616 := by rw [IntKind.wrap_i64]; omega
    go_enter Try.func122, Try.ntmps122
    go_wp2
    go_ret
    refine ⟨?_, rfl⟩
    congr 2
    rw [decide_eq_true h]
    simp; omega
  · have h0 : x < 9223372036854775808 := by omega
    clear h
    have h : ¬ 9223372036854775808 ≤ x := by omega
    go_enter Try.func122, Try.ntmps122
    go_wp2
    go_ret
    refine ⟨?_, rfl⟩
    congr 2
    rw [decide_eq_false h]
    simp

theorem order_eq_key {x y : Nat} (hx : val .f32 x = some x) (hy : val .f32 y = some y) : FloatKind.f32.format.order x y = some .eq ↔ key single x = key single y := by
  rw [order_key .f32 ((nn_iff .f32 x).1 hx) ((nn_iff .f32 y).1 hy)]
  show some (compare (key single x) (key single y)) = some Ordering.eq ↔ _
  rw [Option.some.injEq, Int.compare_eq_eq]

theorem W_sgn (x : Nat) (h : rung single x ≤ single.infRung) : sgn double (W x) = sgn single x := by
  rcases Nat.lt_or_ge (rung single x) single.infRung with h' | h'
  · exact (W_fin h').2.1
  · exact (W_inf (by omega)).2

/-- The same value. -/
def sameV (X Y : Option Nat) : Bool := decide (X = Y)

theorem impl_SameNumber (x y : Nat) (hx : x < 4294967296) (hy : y < 4294967296) (w : World) :
    Calls Try.prog 105 #[.float .f32 x, .float .f32 y] w fun e w' => e = .returned (.bool (sameV (val .f32 x) (val .f32 y))) ∧ ∃ n, w' = w.drewN n := by
  rcases val_cases .f32 x with h | h <;> rcases val_cases .f32 y with h' | h'
  · have h1 := order_self h
    have h2 := order_self h'
    by_cases he : FloatKind.f32.format.order x y = some .eq
    · go_enter Try.func105, Try.ntmps105
      go_wp2_with (first | (refine wpList_widen rfl _ _ _ rfl _ rfl (by kernel_rfl) (by kernel_rfl) ?_; intro r n hr; have hlt : r < 18446744073709551616 := hr.lt) | (go_at_call 122; refine (math_Signbit _ (by assumption) _).mono ?_; rintro e w' ⟨rfl, rfl⟩))
      rename_i r1 n1 hr1 hlt1
      go_ret
      refine ⟨?_, _, rfl⟩
      show Ending.returned (.bool (decide (9223372036854775808 ≤ r1) == decide (9223372036854775808 ≤ r))) = _
      have e1 := wid_some h hr1
      have e2 := wid_some h' hr
      rw [← (f64_split hlt1).2, ← (f64_split hlt).2, e1, e2, W_sgn x ((nn_iff .f32 x).1 h), W_sgn y ((nn_iff .f32 y).1 h'), h, h']
      have hk := (order_eq_key h h').1 he
      congr 2
      rw [Bool.eq_iff_iff]
      simp only [beq_iff_eq, sameV, decide_eq_true_eq, Option.some.injEq]
      constructor
      · intro hs
        refine f32_ext hx hy ?_ hs
        unfold key at hk
        rw [hs] at hk
        split at hk <;> omega
      · intro hs; rw [hs]
    · have he' : (FloatKind.f32.format.order x y == some .eq) = false := by simpa using he
      go_enter Try.func105, Try.ntmps105
      go_wp2
      go_ret
      refine ⟨?_, 0, rfl⟩
      rw [h, h']
      have : x ≠ y := fun hxy => he (by rw [← hxy]; exact h1)
      simp [sameV, this]
  · have h1 := order_self h
    have h2 := order_nan y h'
    go_enter Try.func105, Try.ntmps105
    go_wp2
    go_ret
    refine ⟨?_, 0, rfl⟩
    rw [h, h']; rfl
  · have h1 := order_nan x h
    have h2 := order_self h'
    go_enter Try.func105, Try.ntmps105
    go_wp2
    go_ret
    refine ⟨?_, 0, rfl⟩
    rw [h, h']; rfl
  · have h1 := order_nan x h
    have h2 := order_nan y h'
    go_enter Try.func105, Try.ntmps105
    go_wp2
    go_ret
    refine ⟨?_, 0, rfl⟩
    rw [h, h']; rfl

end Go.Proofs.Ytnibobbfepdeiaa
namespace Go.Proofs.Ytnibobbfepdeiaa
open Fl Go.RowKit
set_option linter.unusedVariables false

def sameVecV (a b c x y z : Nat) : Bool := sameV (val .f32 a) (val .f32 x) && (sameV (val .f32 b) (val .f32 y) && sameV (val .f32 c) (val .f32 z))

theorem impl_SameVector (a b c x y z : Nat) (ha : a < 4294967296) (hb : b < 4294967296) (hc : c < 4294967296) (hx : x < 4294967296) (hy : y < 4294967296) (hz : z < 4294967296) (w : World) : Calls Try.prog 78 #[.agg #[.float .f32 a, .float .f32 b, .float .f32 c], .agg #[.float .f32 x, .float .f32 y, .float .f32 z]] w fun e w' => e = .returned (.bool (sameVecV a b c x y z)) ∧ Below w.heap.size w w' := by
  unfold sameVecV
  cases h1 : sameV (val .f32 a) (val .f32 x) <;> cases h2 : sameV (val .f32 b) (val .f32 y) <;> cases h3 : sameV (val .f32 c) (val .f32 z)
  all_goals
    have H1 : Hid (sameV (val .f32 a) (val .f32 x) = _) := h1
    have H2 : Hid (sameV (val .f32 b) (val .f32 y) = _) := h2
    have H3 : Hid (sameV (val .f32 c) (val .f32 z) = _) := h3
    clear h1 h2 h3
    go_enter Try.func78, Try.ntmps78
    go_wp2_with (first | (go_at_call 105; refine (impl_SameNumber _ _ (by assumption) (by assumption) _).mono ?_; rintro e w' ⟨rfl, n1, rfl⟩; first | rw [H1.out] | rw [H2.out] | rw [H3.out]) | fail)
    go_ret
    refine ⟨rfl, ?_⟩
    (repeat (first | exact Below.refl _ _ | assumption | (refine Below.drewN ?_ _) | (refine Below.setCell ?_ (by first | (simp; done) | (simp; omega)) _) | (refine Below.drew ?_) | (refine Below.alloc ?_ (by first | (simp; done) | (simp; omega)) _)))

end Go.Proofs.Ytnibobbfepdeiaa
namespace Go.Proofs.YtnibobbfepdeiaaW.PrintWords.Kd
open Go.RowKit
set_option linter.unusedVariables false

/-- Floats of kind k, by their bits. -/
def flt (k : FloatKind) : Kd Nat := scalar (Value.float k) (fun _ => rfl)

section
variable {w : World} {A : Option Addr} {n : Nat}
end
end Go.Proofs.YtnibobbfepdeiaaW.PrintWords.Kd

namespace Go.Proofs.Ytnibobbfepdeiaa
open Fl Go.RowKit
set_option linter.unusedVariables false

/-- Two floats below 2^32 with the same value. -/
def simF (a b : Nat) : Bool := decide (a < 4294967296) && (decide (b < 4294967296) && (val .f32 a == val .f32 b))
theorem simF_iff {a b : Nat} : simF a b = true ↔ a < 4294967296 ∧ b < 4294967296 ∧ val .f32 a = val .f32 b := by simp [simF]
theorem simF_self {a : Nat} (h : a < 4294967296) : simF a a = true := simF_iff.2 ⟨h, h, rfl⟩

end Go.Proofs.Ytnibobbfepdeiaa
