/-
  A slice of whole numbers opened, in the print's words; copies of it; equal ones.
-/
import Derived.Test.YtjfoimbeflobkaaDoorOpen
import Derived.Test.YtjfoimbeflobkaaDoorPtoInt64Sx1
import Derived.Test.YtjfoimbeflobkaaDoorTeqI
namespace Go.Proofs.YtjfoimbeflobkaaDoor
open Go.ChangeShapes Go.WideShapes Go.ChangeAt Go.RowKit Go.Proofs.YtjfoimbeflobkaaDoorW.PrintWords
set_option linter.unusedVariables false

section
variable {H : Type} {enc : TypeId × Value → H} {P : Program} {w : World} {base : Nat} {held : Bool}

theorem op_i64s {r : Reach} {b0 : Nat} {t f : TypeId} {v : Value} {d : DataW H} {p : List MemPlace} (ht : P.underlying t = some (.slice f)) (hf : P.underlying f = some (.int .i64)) (hc : P.cellsOf f = 1)
    (hv : Value.okWide P w r b0 t v) (h : DataW.Trod enc P w base (fun _ => true) held t v d p) :
    ∃ (A : Option Addr) (cap : Nat) (l : List Int), v = .slice A l.length cap ∧ l.length ≤ cap ∧ (Kd.int .i64).C w A l.length l ∧ ∀ x ∈ l, (Lit.int .i64 x).wf = true := by
  obtain ⟨a0, len0, cap0, rfl⟩ := okWide_slice ht hv
  obtain ⟨z0, w0⟩ : ∃ zs : List Int, (a0 = none ∧ len0 = 0 ∧ cap0 = 0 ∧ zs = []) ∨ ∃ x, a0 = some x ∧ len0 ≤ cap0 ∧ cap0 ≤ maxLen ∧ zs.length = cap0 ∧ (∀ i, i < zs.length → w.cell? (x.add i) = some (.int .i64 (zs.getD i 0))) ∧ ∀ n ∈ zs, (Lit.int .i64 n).wf = true := by
    obtain ⟨fuel, hf'⟩ := h
    rcases open_ints ht hf hc hf' with ⟨hcs, _⟩ | ⟨x, l, c, zs, hcs, _, hl, hm, hz, _, hcell, hwz⟩
    · simp [Value.cells] at hcs
      obtain ⟨rfl, rfl, rfl⟩ := hcs
      exact ⟨[], .inl ⟨rfl, rfl, rfl, rfl⟩⟩
    · simp [Value.cells] at hcs
      obtain ⟨rfl, rfl, rfl⟩ := hcs
      exact ⟨zs, .inr ⟨_, rfl, hl, hm, by simpa using hz, hcell, hwz⟩⟩
  obtain ⟨l, rfl, hr, hm, hwf, hcap⟩ := ReadsInt.ofRowC w0
  exact ⟨a0, cap0, l, rfl, hcap, Kd.C_of_reads (d := (0 : Int)) (h1 := fun _ => rfl) hr, hwf⟩
end

theorem toInt_loop (l : List Int) (hl : l.length ≤ 1048576) (d : Nat) : ∀ (k i : Nat) (out : List Int), i ≤ l.length → l.length - i = d → d < k → out.length = l.length → (∀ j, j < i → out[j]? = l[j]?) → PtoInt64S.laws_toInt64S.l0 k l out (i : Int) = some l := by
  induction d with
  | zero =>
    intro k i out hi hd hk ho hj
    obtain ⟨k, rfl⟩ : ∃ j, k = j + 1 := ⟨k - 1, by omega⟩
    simp only [PtoInt64S.laws_toInt64S.l0]
    rw [if_neg (by omega)]
    congr 1
    apply List.ext_getElem? 
    intro j
    rcases Nat.lt_or_ge j i with h | h
    · exact hj j h
    · rw [List.getElem?_eq_none (by omega), List.getElem?_eq_none (by omega)]
  | succ d ih =>
    intro k i out hi hd hk ho hj
    obtain ⟨k, rfl⟩ : ∃ j, k = j + 1 := ⟨k - 1, by omega⟩
    have hil : i < l.length := by omega
    simp only [PtoInt64S.laws_toInt64S.l0]
    rw [if_pos (by omega), if_pos (by omega), if_pos (by omega), rd_get l i hil, wrap_fit (by omega) (by omega), Int.toNat_natCast, show (i : Int) + 1 = ((i + 1 : Nat) : Int) by omega]
    refine ih k (i + 1) _ (by omega) (by omega) (by omega) (by rw [List.length_set]; exact ho) (fun j hji => ?_)
    by_cases e : j = i
    · subst e; rw [List.getElem?_set_self (by omega), List.getElem?_eq_getElem hil]
    · rw [List.getElem?_set_ne (by omega)]; exact hj j (by omega)

theorem toInt_f (l : List Int) (hl : l.length ≤ 1048576) : PtoInt64S.laws_toInt64S.f (l.length + 1) l = some l := by
  unfold PtoInt64S.laws_toInt64S.f
  rw [if_pos (by omega), Int.toNat_natCast, if_pos (by omega)]
  exact toInt_loop l hl l.length _ 0 _ (by omega) (by omega) (by omega) (by simp) (fun j hj => absurd hj (Nat.not_lt_zero _))

theorem laws_toInt64S (A : Option Addr) (cap : Nat) (l : List Int) (hl : l.length ≤ 1048576) (w : World) (hA : (Kd.int .i64).C w A l.length l) (hc : l.length ≤ cap) :
    Calls Tryd.prog 11 #[.slice A l.length cap] w fun e w' => ∃ (A' : Option Addr) (c' : Nat), e = .returned (.slice A' l.length c') ∧ l.length ≤ c' ∧ (Kd.int .i64).C w' A' l.length l ∧ Below w.heap.size w w' := by
  refine (PtoInt64S.laws_toInt64S.calls (l.length + 1) A cap l l w hA hc (toInt_f l hl)).mono ?_
  rintro e w' ⟨v, rfl, hR, hb⟩
  obtain ⟨A', c', rfl, hl', hC⟩ := Kd.R_reads hR
  exact ⟨A', c', rfl, hl', hC, hb⟩

end Go.Proofs.YtjfoimbeflobkaaDoor
