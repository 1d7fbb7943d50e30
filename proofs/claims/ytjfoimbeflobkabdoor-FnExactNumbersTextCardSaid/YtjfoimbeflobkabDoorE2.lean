/-
  'make([]float32, n)': n zeros that can be written.
-/
import Derived.Test.YtjfoimbeflobkabDoorE1
import Derived.Laws.OwnMore
namespace Go.Proofs.YtjfoimbeflobkabDoor
open Go.RowKit Fl
set_option linter.unusedVariables false

theorem wpList_make_floats {P : Program} {w : World} {ops : Array Oper} {rest : List Oper} {o : Oper} {a : Act} {Q : Exit → Act → World → Prop}
    (hg : o.guard = none) (l c : Operand) (t f : TypeId) (hop : o.op = Op.makeSlice t l c) (h1 : P.underlying t = some (.slice f))
    (hi : (P.info? f).map (fun i => (i.zero, i.size, i.bytes)) = some (some (.float .f32 0), 1, 4)) (n : Nat) (hn : n ≤ 1048576)
    (hl : a.eval l = .int .i64 (n : Int)) (hc : a.eval c = .int .i64 (n : Int))
    (hK : ∀ w', Below w.heap.size w w' → w.heap.size < w'.heap.size → (∀ j, j < n → w'.cell? ⟨w.heap.size, j, none⟩ = some (.float .f32 0) ∧ w'.frozen? ⟨w.heap.size, j, none⟩ = false) →
      wpList P ops Q rest (a.put o.dst (.slice (some ⟨w.heap.size, 0, none⟩) n n)) w') :
    wpList P ops Q (o :: rest) a w := by
  obtain ⟨i, hi0, hi1⟩ := Option.map_eq_some_iff.1 hi
  simp only [Prod.mk.injEq] at hi1
  refine wpList_make_full w hg l c t hop w.heap.size f i (.float .f32 0) 1 h1 hi0 hi1.1 hi1.2.1 .i64 .i64 (n : Int) (n : Int) n hl hc rfl rfl (by rw [hi1.2.2]; omega) (by unfold maxLen; omega) (Nat.le_refl _) ?_
  intro w' ⟨hx, hown⟩ hgr
  rcases hown with ⟨h, _⟩ | ⟨g, cap, cur, hv, hb, hh, h3, h4, h5, h6⟩
  · cases h
  · cases hv
    have hcur : cur.size = n := by rw [h5]; omega
    have hz : cur.toList = (madeCells (Value.float .f32 0).cells (n * 1)).toList := by rw [← h6]; rw [List.take_of_length_le (by simp; omega)]
    have hlt : w.heap.size < w'.heap.size := by
      rcases Nat.lt_or_ge w.heap.size w'.heap.size with h | h
      · exact h
      · rw [Array.getElem?_eq_none h] at hh; cases hh
    refine hK w' ⟨hgr.os, hgr.tape, hgr.output, hgr.size, fun k hk => hgr.block k hk (by simp)⟩ hlt fun j hj => ?_
    have e : cur[j]? = some (.float .f32 0) := by
      rw [← Array.getElem?_toList, hz, show (Value.float .f32 0).cells = #[.float .f32 0] from rfl, toList_madeCells_one, List.getElem?_replicate, if_pos (by omega)]
    refine ⟨?_, ?_⟩
    · simp [World.cell?, hh, e]
    · simp [World.frozen?, hh]

/-- What a copy of a row holds while it is filled: n cells that can be written, the first i as they shall be. -/
def Filled (w : World) (g n i : Nat) (xs : List Nat) : Prop :=
  g < w.heap.size ∧ (∀ j, j < n → ∃ y, w.cell? ⟨g, j, none⟩ = some (.float .f32 y) ∧ w.frozen? ⟨g, j, none⟩ = false) ∧ ∀ j, j < i → w.cell? ⟨g, j, none⟩ = some (.float .f32 (xs.getD j 0))

theorem Filled.set {w : World} {g n i : Nat} {xs : List Nat} (h : Filled w g n i xs) (hi : i < n) : Filled (w.setCell ⟨g, i, none⟩ (.float .f32 (xs.getD i 0))) g n (i + 1) xs := by
  obtain ⟨h1, h2, h3⟩ := h
  have hs : (w.setCell ⟨g, i, none⟩ (.float .f32 (xs.getD i 0))).cell? ⟨g, i, none⟩ = some (.float .f32 (xs.getD i 0)) := by
    obtain ⟨y, hy, _⟩ := h2 i hi
    exact World.cell?_setCell_same _ _ _ hy
  have ho : ∀ j, j ≠ i → (w.setCell ⟨g, i, none⟩ (.float .f32 (xs.getD i 0))).cell? ⟨g, j, none⟩ = w.cell? ⟨g, j, none⟩ := fun j hj => World.cell?_setCell_other _ _ _ _ (by first | (simp; done) | (simp; omega))
  refine ⟨by simpa using h1, fun j hj => ?_, fun j hj => ?_⟩
  · obtain ⟨y, hy, hz⟩ := h2 j hj
    by_cases e : j = i
    · subst e; exact ⟨_, hs, by simpa [go_sem] using hz⟩
    · exact ⟨y, (ho j e).trans hy, by simpa [go_sem] using hz⟩
  · by_cases e : j = i
    · subst e; exact hs
    · rw [ho j e]; exact h3 j (by omega)

theorem laws_toFloat32S (A : Option Addr) (cap : Nat) (xs : List Nat) (n : Nat) (hn : xs.length = n) (hle : n ≤ 1048576) (w : World) (hA : FloatsAt w w.heap.size A xs) :
    Calls Tryd.prog 14 #[.slice A n cap] w fun e w' => e = .returned (.slice (some ⟨w.heap.size, 0, none⟩) n n) ∧ FloatsAt w' w'.heap.size (some ⟨w.heap.size, 0, none⟩) xs ∧ w.heap.size < w'.heap.size ∧ Below w.heap.size w w' := by
  have HA : Hid (FloatsAt w w.heap.size A xs) := hA
  have HN : Hid (xs.length = n) := hn
  clear hA hn
  go_enter Tryd.func14, Tryd.ntmps14
  go_wp2_with (first | (refine wpList_make_floats rfl _ _ _ 34 rfl Tryd.underlying28 (by kernel_rfl) n hle rfl rfl ?_; intro w1 hb1 hlt1 hz1; have HZ : Hid (∀ j, j < n → w1.cell? ⟨w.heap.size, j, none⟩ = some (.float .f32 0) ∧ w1.frozen? ⟨w.heap.size, j, none⟩ = false) := hz1; clear hz1) | fail)
  go_loopw [4] (fun k wr => ∃ i : Nat, i ≤ n ∧ k = .int .i64 (i : Int) ∧ Below w.heap.size w wr ∧ Hid (Filled wr w.heap.size n i xs)) (fun k _ => n - (intOf k).toNat)
  case atStart => exact ⟨0, Nat.zero_le _, rfl, hb1, ⟨hlt1, fun j hj => ⟨0, (HZ.out j hj).1, (HZ.out j hj).2⟩, fun j hj => absurd hj (Nat.not_lt_zero _)⟩⟩
  case round =>
    obtain ⟨i, hi, rfl, hbw, hF⟩ := hrel
    by_cases hlt : i < n
    · have b1 : (i : Int) < (n : Int) := by omega
      have b2 : (0 : Int) ≤ (i : Int) := by omega
      have b3 : (i : Int) < 1048576 := by omega
      obtain ⟨b, off, rfl, hbl, hcell, hxl⟩ := HA.out i (by rw [HN.out]; exact hlt)
      obtain ⟨y, hy, hz⟩ := hF.out.2.1 i hlt
      have hc := (hbw.cell hbl).trans hcell
      clear hcell
      go_wp2_with fail
      go_roundw
      case rel => exact ⟨i + 1, hlt, by simp, Below.setCell hbw (Nat.le_refl _) _, hF.out.set hlt⟩
      case measure => simp [intOf]; omega
    · obtain rfl : i = n := by omega
      go_wp2_with fail
      go_ret
      refine ⟨rfl, fun j hj => ⟨_, 0, rfl, hF.out.1, by rw [Nat.zero_add]; exact hF.out.2.2 j (by rw [HN.out] at hj; exact hj), ?_⟩, hF.out.1, hbw⟩
      obtain ⟨_, _, _, _, _, hx⟩ := HA.out j hj
      exact hx
end Go.Proofs.YtjfoimbeflobkabDoor
