/-
  Contracts: SumPairs, both sides.
-/
import Derived.Test.YtilaempppmhohaaE6
import Derived.WalkSpells
import Derived.Deep.RegionHeld3
import Derived.Test.YtilaempppmhohaaE4
namespace Go.Proofs.Ytilaempppmhohaa
open Go.RowKit Fl
set_option linter.unusedVariables false

/-- The sum by halves of the n numbers from 'off' on; f: how often it may be halved. -/
def pairsV (xs : List Nat) : Nat → Nat → Nat → Option Nat
  | 0, _, _ => some 0
  | f + 1, off, n => if n = 0 then some 0 else if n = 1 then val .f32 (xs.getD off 0) else bin .add .f32 (pairsV xs f off ((n + 1) / 2)) (pairsV xs f (off + (n + 1) / 2) (n - (n + 1) / 2))

theorem pairsV_zero (xs : List Nat) (f off : Nat) : pairsV xs f off 0 = some 0 := by cases f <;> rfl
theorem pairsV_one (xs : List Nat) (f off : Nat) : pairsV xs (f + 1) off 1 = val .f32 (xs.getD off 0) := rfl
theorem pairsV_more (xs : List Nat) (f off n : Nat) (h : 2 ≤ n) : pairsV xs (f + 1) off n = bin .add .f32 (pairsV xs f off ((n + 1) / 2)) (pairsV xs f (off + (n + 1) / 2) (n - (n + 1) / 2)) := by
  show (if n = 0 then _ else if n = 1 then _ else _) = _
  rw [if_neg (by omega), if_neg (by omega)]

/-- From address A the floats xs from 'off' on, n of them, can be read. -/
def PartAt (w : World) (b o : Nat) (xs : List Nat) : Prop :=
  ∀ i, i < xs.length → w.cell? ⟨b, o + i, none⟩ = some (.float .f32 (xs.getD i 0)) ∧ xs.getD i 0 < 4294967296

theorem PartAt.at_ {w : World} {b o : Nat} {xs : List Nat} (h : PartAt w b o xs) (i m : Nat) (hi : i < xs.length) : (w.drewN m).cell? ⟨b, o + i, none⟩ = some (.float .f32 (xs.getD i 0)) := (h i hi).1

attribute [local go_sem] run_add_eq

theorem drawn_step {w w' : World} (h : ∃ m, w' = w.drewN m) (k : Nat) : ∃ m, w'.drewN k = w.drewN m := by
  obtain ⟨m, rfl⟩ := h
  exact ⟨m + k, World.drewN_drewN ..⟩

theorem add_step {x y : Nat} {X Y : Option Nat} (hx : FR .f32 x X) (hy : FR .f32 y Y) (t : TypeId) (w : World) : FR .f32 (addBits t .f32 x y w) (bin .add .f32 X Y) := by
  have h := addBits_fr t .f32 x y w
  rw [hx.val, hy.val] at h
  exact h

theorem spec_l01SumPairs (b o : Nat) (xs : List Nat) (hle : xs.length ≤ 1048576) (w : World) (hA : PartAt w b o xs) (f : Nat) : ∀ (off n cap p : Nat) (w' : World), p = o + off → n ≤ f → off + n ≤ xs.length → n ≤ cap → cap ≤ 9223372036854775807 → (∃ m, w' = w.drewN m) →
    Calls Try.prog 17 #[.slice (some ⟨b, p, none⟩) n cap] w' fun e w'' => ∃ r, e = .returned (.float .f32 r) ∧ FR .f32 r (pairsV xs f off n) ∧ ∃ m, w'' = w.drewN m := by
  have HA : Hid (PartAt w b o xs) := hA
  clear hA
  induction f with
  | zero =>
    intro off n cap p w' hp hn hoff hcap hmax hw
    obtain ⟨m, rfl⟩ := hw
    obtain rfl : n = 0 := by omega
    go_enter Try.func17, Try.ntmps17
    go_wp2_with fail
    go_ret
    exact ⟨0, rfl, ⟨by decide, v32z⟩, m, rfl⟩
  | succ f ih =>
    intro off n cap p w' hp hn hoff hcap hmax hw
    obtain ⟨m, rfl⟩ := hw
    have HP : Hid (p = o + off) := hp
    by_cases h0 : n = 0
    · subst h0
      clear hp
      go_enter Try.func17, Try.ntmps17
      go_wp2_with fail
      go_ret
      exact ⟨0, rfl, ⟨by decide, by rw [pairsV_zero]; exact v32z⟩, m, rfl⟩
    · by_cases h1 : n = 1
      · subst h1
        have hc := HA.out.at_ off m (by omega)
        rw [← hp] at hc
        have hx := (HA.out off (by omega)).2
        clear hp
        go_enter Try.func17, Try.ntmps17
        go_wp2_with fail
        go_ret
        exact ⟨_, rfl, ⟨hx, by rw [pairsV_one, List.getD_eq_getElem?_getD]⟩, m, rfl⟩
      · have H2 : Hid (2 ≤ n) := by show 2 ≤ n; omega
        have b1 : ((n : Int) == 0) = false := by simpa using h0
        have b2 : ((n : Int) == 1) = false := by simp; omega
        have b3 : (2 : Int) ≤ (n : Int) := by omega
        have b4 : (n : Int) ≤ 1048576 := by omega
        obtain ⟨half, hh⟩ : ∃ half : Nat, half = (n + 1) / 2 := ⟨_, rfl⟩
        have e1 : ((n : Int) + 1) / 2 = (half : Int) := by omega
        have HH : Hid (half = (n + 1) / 2) := hh
        have b5 : half < n := by omega
        have b6 : 0 < half := by omega
        have G1 : half ≤ f := by omega
        have G2 : off + half ≤ xs.length := by omega
        have G3 : half ≤ cap := by omega
        have G4 : n - half ≤ f := by omega
        have G5 : off + half + (n - half) ≤ xs.length := by omega
        have G6 : n - half ≤ cap - half := by omega
        have G7 : cap - half ≤ 9223372036854775807 := by omega
        have G8 : Hid (p + half = o + (off + half)) := by show p + half = _; omega
        clear hh h0 h1 hp
        go_enter Try.func17, Try.ntmps17
        go_wp2_with fail
        rw [e1]
        have a1 : (0 : Int) ≤ (half : Int) := by omega
        have a2 : (half : Int) ≤ (cap : Int) := by omega
        have a3 : (half : Int) ≤ (n : Int) := by omega
        have a4 : (n : Int) ≤ (cap : Int) := by omega
        have a5 : (half : Int) < (cap : Int) := by omega
        go_region_held (fun w' => ∃ m, w' = w.drewN m) (first | exact ⟨m + 1, rfl⟩ | assumption | exact drawn_step (by assumption) _ | exact ⟨_, rfl⟩)
          (first | (go_at_call 17; first | ((with_reducible refine Calls.mono (ih off half cap p _ HP.out G1 G2 G3 hmax (by first | exact ⟨_, rfl⟩ | assumption)) ?_); rintro e w' ⟨r1, rfl, hr1, hm1⟩) | ((with_reducible refine Calls.mono (ih (off + half) (n - half) (cap - half) (p + half) _ G8.out G4 G5 G6 G7 (by first | exact ⟨_, rfl⟩ | assumption)) ?_); rintro e w' ⟨r2, rfl, hr2, hm2⟩)))
        all_goals
          rename_i hfin
          have HF : Hid (∃ m, _ = w.drewN m) := hfin
          clear hfin
          go_wp2_with fail
          go_ret
          refine ⟨_, rfl, ?_, HF.out⟩
          rw [pairsV_more _ _ _ _ H2.out, ← HH.out]; exact add_step hr1 hr2 _ _

theorem impl_pairs (b o : Nat) (xs : List Nat) (hle : xs.length ≤ 1048576) (w : World) (hA : PartAt w b o xs) (f : Nat) : ∀ (off n cap p : Nat) (w' : World), p = o + off → n ≤ f → off + n ≤ xs.length → n ≤ cap → cap ≤ 9223372036854775807 → (∃ m, w' = w.drewN m) →
    Calls Try.prog 18 #[.slice (some ⟨b, p, none⟩) n cap] w' fun e w'' => ∃ r, e = .returned (.float .f32 r) ∧ FR .f32 r (pairsV xs f off n) ∧ ∃ m, w'' = w.drewN m := by
  have HA : Hid (PartAt w b o xs) := hA
  clear hA
  induction f with
  | zero =>
    intro off n cap p w' hp hn hoff hcap hmax hw
    obtain ⟨m, rfl⟩ := hw
    obtain rfl : n = 0 := by omega
    go_enter Try.func18, Try.ntmps18
    go_wp2_with fail
    go_ret
    exact ⟨0, rfl, ⟨by decide, v32z⟩, m, rfl⟩
  | succ f ih =>
    intro off n cap p w' hp hn hoff hcap hmax hw
    obtain ⟨m, rfl⟩ := hw
    have HP : Hid (p = o + off) := hp
    by_cases h0 : n = 0
    · subst h0
      clear hp
      go_enter Try.func18, Try.ntmps18
      go_wp2_with fail
      go_ret
      exact ⟨0, rfl, ⟨by decide, by rw [pairsV_zero]; exact v32z⟩, m, rfl⟩
    · by_cases h1 : n = 1
      · subst h1
        have hc := HA.out.at_ off m (by omega)
        rw [← hp] at hc
        have hx := (HA.out off (by omega)).2
        clear hp
        go_enter Try.func18, Try.ntmps18
        go_wp2_with fail
        go_ret
        exact ⟨_, rfl, ⟨hx, by rw [pairsV_one, List.getD_eq_getElem?_getD]⟩, m, rfl⟩
      · have H2 : Hid (2 ≤ n) := by show 2 ≤ n; omega
        have b1 : ((n : Int) == 0) = false := by simpa using h0
        have b2 : ((n : Int) == 1) = false := by simp; omega
        have b3 : (2 : Int) ≤ (n : Int) := by omega
        have b4 : (n : Int) ≤ 1048576 := by omega
        obtain ⟨half, hh⟩ : ∃ half : Nat, half = (n + 1) / 2 := ⟨_, rfl⟩
        have e1 : ((n : Int) + 1) / 2 = (half : Int) := by omega
        have HH : Hid (half = (n + 1) / 2) := hh
        have b5 : half < n := by omega
        have b6 : 0 < half := by omega
        have G1 : half ≤ f := by omega
        have G2 : off + half ≤ xs.length := by omega
        have G3 : half ≤ cap := by omega
        have G4 : n - half ≤ f := by omega
        have G5 : off + half + (n - half) ≤ xs.length := by omega
        have G6 : n - half ≤ cap - half := by omega
        have G7 : cap - half ≤ 9223372036854775807 := by omega
        have G8 : Hid (p + half = o + (off + half)) := by show p + half = _; omega
        clear hh h0 h1 hp
        go_enter Try.func18, Try.ntmps18
        go_wp2_with fail
        rw [e1]
        have a1 : (0 : Int) ≤ (half : Int) := by omega
        have a2 : (half : Int) ≤ (cap : Int) := by omega
        have a3 : (half : Int) ≤ (n : Int) := by omega
        have a4 : (n : Int) ≤ (cap : Int) := by omega
        have a5 : (half : Int) < (cap : Int) := by omega
        go_region_held (fun w' => ∃ m, w' = w.drewN m) (first | exact ⟨m + 1, rfl⟩ | assumption | exact drawn_step (by assumption) _ | exact ⟨_, rfl⟩)
          (first | (go_at_call 18; first | ((with_reducible refine Calls.mono (ih off half cap p _ HP.out G1 G2 G3 hmax (by first | exact ⟨_, rfl⟩ | assumption)) ?_); rintro e w' ⟨r1, rfl, hr1, hm1⟩) | ((with_reducible refine Calls.mono (ih (off + half) (n - half) (cap - half) (p + half) _ G8.out G4 G5 G6 G7 (by first | exact ⟨_, rfl⟩ | assumption)) ?_); rintro e w' ⟨r2, rfl, hr2, hm2⟩)))
        all_goals
          rename_i hfin
          have HF : Hid (∃ m, _ = w.drewN m) := hfin
          clear hfin
          go_wp2_with fail
          go_ret
          refine ⟨_, rfl, ?_, HF.out⟩
          rw [pairsV_more _ _ _ _ H2.out, ← HH.out]; exact add_step hr1 hr2 _ _
end Go.Proofs.Ytilaempppmhohaa
