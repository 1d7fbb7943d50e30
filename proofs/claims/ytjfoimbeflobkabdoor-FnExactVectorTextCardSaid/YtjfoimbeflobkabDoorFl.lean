/-
  Plain facts on floats: a float's value is nothing where it is a NaN, else its bits; each operation is a function of the operands' values.
-/
import Derived.Laws.FloatArith
import Derived.Deep.Draws
namespace Go.Proofs.YtjfoimbeflobkabDoor.Fl
open Ieee

/-- A float's value: none for a NaN, else its bits. -/
def val (k : FloatKind) (b : Nat) : Option Nat := if (k.format.read b).isNaN then none else some b

/-- An operation on values. -/
def bin (op : BinOp) (k : FloatKind) : Option Nat → Option Nat → Option Nat
  | some x, some y => floatBits op k x y
  | _, _ => none

/-- A comparison on values. -/
def cmp (k : FloatKind) : Option Nat → Option Nat → Option Ordering
  | some x, some y => k.format.order x y
  | _, _ => none

theorem val_some {k : FloatKind} {b x : Nat} (h : val k b = some x) : x = b := by
  unfold val at h; split at h <;> simp_all

theorem signWeight_pos (f : Format) : 0 < f.signWeight := Nat.two_pow_pos _
theorem binade_pos (f : Format) : 0 < f.binade := Nat.two_pow_pos _

theorem word_mod (f : Format) (neg : Bool) {rung : Nat} (h : rung < f.signWeight) : f.word neg rung % f.signWeight = rung := by
  unfold Format.word
  split
  · rw [Nat.add_mod_left]; exact Nat.mod_eq_of_lt h
  · exact Nat.mod_eq_of_lt h

theorem word_neg (f : Format) (neg : Bool) {rung : Nat} (h : rung < f.signWeight) : (f.word neg rung / f.signWeight % 2 == 1) = neg := by
  unfold Format.word
  split
  · rename_i hn
    rw [Nat.add_div_left _ (signWeight_pos f), Nat.div_eq_of_lt h, hn]; rfl
  · rename_i hn
    rw [Nat.div_eq_of_lt h]
    cases neg
    · rfl
    · exact absurd rfl hn

/-- What the word of a rung reads as. -/
theorem read_word (f : Format) (neg : Bool) {rung : Nat} (h : rung < f.signWeight) : f.read (f.word neg rung) =
    (if rung < f.binade then .number neg rung f.leastPlace
     else if rung < f.infRung then .number neg (f.binade + rung % f.binade) (f.leastPlace + (rung / f.binade - 1 : Nat))
     else if rung = f.infRung then .infinity neg else .nan neg (rung - f.infRung)) := by
  unfold Format.read
  simp only [word_mod f neg h, word_neg f neg h]

theorem binade_le (k : FloatKind) : k.format.binade ≤ k.format.infRung := by cases k <;> decide

theorem isNaN_read (k : FloatKind) (b : Nat) : (k.format.read b).isNaN = decide (k.format.infRung < b % k.format.signWeight) := by
  have hb := binade_le k
  unfold Format.read
  dsimp only
  split
  · simp only [Datum.isNaN]; symm; rw [decide_eq_false_iff_not]; omega
  · split
    · simp only [Datum.isNaN]; symm; rw [decide_eq_false_iff_not]; omega
    · split
      · simp only [Datum.isNaN]; symm; rw [decide_eq_false_iff_not]; omega
      · simp only [Datum.isNaN]; symm; rw [decide_eq_true_eq]; omega

/-- A number's or an infinity's word is no NaN. -/
theorem word_val (k : FloatKind) (neg : Bool) {rung : Nat} (h : rung ≤ k.format.infRung) : val k (k.format.word neg rung) = some (k.format.word neg rung) := by
  have hl := k.format.infRung_lt
  unfold val
  rw [isNaN_read, word_mod _ _ (by omega), if_neg]
  simp only [decide_eq_true_eq]; omega

theorem write_val (k : FloatKind) {d : Datum} (h : d.isNaN = false) : val k (k.format.write d) = some (k.format.write d) := by
  cases d with
  | number neg mag place =>
    simp only [Format.write, Format.nearest]
    split
    · exact word_val k neg (Nat.zero_le _)
    · exact word_val k neg (Nat.min_le_right _ _)
  | infinity neg => exact word_val k neg (Nat.le_refl _)
  | nan neg fr => simp [Datum.isNaN] at h

theorem nan_of_val {k : FloatKind} {b : Nat} (h : val k b = none) : ∃ s t, k.format.read b = .nan s t := by
  unfold val at h
  split at h
  · rename_i hn
    cases hd : k.format.read b with
    | nan s t => exact ⟨s, t, rfl⟩
    | number s m e => rw [hd] at hn; simp [Datum.isNaN] at hn
    | infinity s => rw [hd] at hn; simp [Datum.isNaN] at hn
  · simp at h

theorem val_of_nn {k : FloatKind} {b : Nat} (h : (k.format.read b).isNaN = false) : val k b = some b := by
  unfold val; rw [h]; rfl

theorem nn_of_val {k : FloatKind} {b x : Nat} (h : val k b = some x) : (k.format.read b).isNaN = false := by
  unfold val at h; split at h
  · simp at h
  · rename_i hn; simpa using hn

theorem val_cases (k : FloatKind) (b : Nat) : val k b = some b ∨ val k b = none := by
  unfold val; split <;> simp

/-- An operation is a function of its operands' values. -/
theorem floatBits_bin (op : BinOp) (k : FloatKind) (x y : Nat) : floatBits op k x y = bin op k (val k x) (val k y) := by
  have nx : ∀ s t, k.format.read x = .nan s t → floatBits op k x y = none := by
    intro s t h
    unfold floatBits Format.add Format.sub Format.mul Format.div
    rw [h]
    cases op <;> simp [Datum.sum, Datum.product, Datum.quotient]
  have ny : ∀ s t, k.format.read y = .nan s t → floatBits op k x y = none := by
    intro s t h
    unfold floatBits Format.add Format.sub Format.mul Format.div
    rw [h]
    cases op <;> cases k.format.read x <;> simp [Datum.sum, Datum.product, Datum.quotient, Datum.opposite]
  rcases val_cases k x with hx | hx <;> rcases val_cases k y with hy | hy
  · rw [hx, hy]; rfl
  · rw [hx, hy]; obtain ⟨s, t, h⟩ := nan_of_val hy; exact ny s t h
  · rw [hx]; obtain ⟨s, t, h⟩ := nan_of_val hx; exact nx s t h
  · rw [hx]; obtain ⟨s, t, h⟩ := nan_of_val hx; exact nx s t h

theorem sum_nn {a b d : Datum} (h : a.sum b = some d) : d.isNaN = false := by
  cases a <;> cases b <;> simp only [Datum.sum] at h <;> first | (cases h; done) | (cases h; rfl) | (split at h <;> first | (cases h; done) | (cases h; rfl))

theorem product_nn {a b d : Datum} (h : a.product b = some d) : d.isNaN = false := by
  cases a <;> cases b <;> simp only [Datum.product] at h <;> first | (cases h; done) | (cases h; rfl) | (split at h <;> first | (cases h; done) | (cases h; rfl))

theorem quotient_nn {q : Nat} {a b d : Datum} (h : a.quotient q b = some d) : d.isNaN = false := by
  cases a <;> cases b <;> simp only [Datum.quotient] at h <;> first | (cases h; done) | (cases h; rfl) | (split at h <;> first | (cases h; done) | (cases h; rfl) | (split at h <;> first | (cases h; done) | (cases h; rfl)))

theorem map_write_val (k : FloatKind) {o : Option Datum} {r : Nat} (ho : ∀ d, o = some d → d.isNaN = false) (h : o.map k.format.write = some r) : val k r = some r := by
  cases o with
  | none => cases h
  | some d => cases h; exact write_val k (ho d rfl)

/-- What a valid operation gives is no NaN. -/
theorem floatBits_val {op : BinOp} {k : FloatKind} {x y r : Nat} (h : floatBits op k x y = some r) : val k r = some r := by
  unfold floatBits at h
  split at h
  · exact map_write_val k (fun d hd => sum_nn hd) h
  · exact map_write_val k (fun d hd => sum_nn hd) h
  · exact map_write_val k (fun d hd => product_nn hd) h
  · exact map_write_val k (fun d hd => quotient_nn hd) h
  · cases h

theorem floatBits_lt {op : BinOp} {k : FloatKind} {x y r : Nat} (h : floatBits op k x y = some r) : r < 2 ^ k.format.width := by
  unfold floatBits at h
  split at h
  · exact k.format.add_lt h
  · exact k.format.sub_lt h
  · exact k.format.mul_lt h
  · exact k.format.div_lt h
  · cases h

/-- A comparison is a function of its operands' values. -/
theorem order_cmp (k : FloatKind) (x y : Nat) : k.format.order x y = cmp k (val k x) (val k y) := by
  have nx : ∀ s t, k.format.read x = .nan s t → k.format.order x y = none := by
    intro s t h; unfold Format.order; rw [h]; simp [Datum.order]
  have ny : ∀ s t, k.format.read y = .nan s t → k.format.order x y = none := by
    intro s t h; unfold Format.order; rw [h]; cases k.format.read x <;> simp [Datum.order]
  rcases val_cases k x with hx | hx <;> rcases val_cases k y with hy | hy
  · rw [hx, hy]; rfl
  · rw [hx, hy]; obtain ⟨s, t, h⟩ := nan_of_val hy; exact ny s t h
  · rw [hx]; obtain ⟨s, t, h⟩ := nan_of_val hx; exact nx s t h
  · rw [hx]; obtain ⟨s, t, h⟩ := nan_of_val hx; exact nx s t h

/-- Bits r of kind k, of value X. (A plain definition: no rule of the walk's.) -/
def FR (k : FloatKind) (r : Nat) (X : Option Nat) : Prop := r < 2 ^ k.format.width ∧ val k r = X

theorem FR.val {k : FloatKind} {r : Nat} {X : Option Nat} (h : FR k r X) : Fl.val k r = X := h.2
theorem FR.lt {k : FloatKind} {r : Nat} {X : Option Nat} (h : FR k r X) : r < 2 ^ k.format.width := h.1
theorem FR.self {k : FloatKind} {r : Nat} (h : r < 2 ^ k.format.width) : FR k r (Fl.val k r) := ⟨h, rfl⟩

/-- The NaNs that the tape chooses. -/
theorem nan_cut (k : FloatKind) (q : Question) (t : Nat) (hq : (∃ x y, q = .nanBits k x y) ∨ (∃ b, q = .nanConv k b)) : FR k (q.cut t) none := by
  have aux : ∀ S I M : Nat, I + 1 + M ≤ S → ∀ v, v < M → ((t % 2) * S + I + 1 + v < 2 * S ∧ I < ((t % 2) * S + I + 1 + v) % S) := by
    intro S I M hM v hv
    rcases Nat.mod_two_eq_zero_or_one t with h | h
    · rw [h, Nat.zero_mul, Nat.zero_add, Nat.mod_eq_of_lt (by omega)]; omega
    · rw [h, Nat.one_mul, show S + I + 1 + v = I + 1 + v + S by omega, Nat.add_mod_right, Nat.mod_eq_of_lt (by omega)]; omega
  have key : q.cut t < 2 ^ k.format.width ∧ k.format.infRung < q.cut t % k.format.signWeight := by
    have a32 := aux (2 ^ 31) 0x7f800000 (2 ^ 23 - 1) (by decide) ((t / 2) % (2 ^ 23 - 1)) (Nat.mod_lt _ (by decide))
    have a64 := aux (2 ^ 63) 0x7ff0000000000000 (2 ^ 52 - 1) (by decide) ((t / 2) % (2 ^ 52 - 1)) (Nat.mod_lt _ (by decide))
    rcases hq with ⟨x, y, rfl⟩ | ⟨b, rfl⟩ <;> cases k
    · exact a32
    · exact a64
    · exact a32
    · exact a64
  refine ⟨key.1, ?_⟩
  unfold Fl.val
  rw [isNaN_read, if_pos]
  simpa using key.2

section
variable {P : Program}

/-- '+', '-', '*', '/': some bits of the value that the operands' values give; some draws. -/
theorem run_arith (op : BinOp) (hop : op = .add ∨ op = .sub ∨ op = .mul ∨ op = .quo) (t : TypeId) (k : FloatKind) (x y : Nat) (w : World) :
    ∃ r n, (binOp op t (.float k x) (.float k y)).run P w = .ok (.float k r) (w.drewN n) ∧ FR k r (bin op k (Fl.val k x) (Fl.val k y)) := by
  cases h : floatBits op k x y with
  | some r =>
    refine ⟨r, 0, ?_, floatBits_lt h, ?_⟩
    · rw [run_float_arith w op t k x y r h]; rfl
    · rw [← floatBits_bin, h]; exact floatBits_val h
  | none =>
    have hn := nan_cut k (.nanBits k x y) (w.tape w.drawn (.nanBits k x y)) (.inl ⟨x, y, rfl⟩)
    refine ⟨_, 1, ?_, hn.1, by rw [← floatBits_bin, h]; exact hn.2⟩
    unfold floatBits at h
    rcases hop with rfl | rfl | rfl | rfl <;> simp only at h <;> simp [binOp, Op.floatArith, h, choose, Sem.run, Question.forced] <;> rfl
end

end Go.Proofs.YtjfoimbeflobkabDoor.Fl
