/-
  Contracts: the text of a list of numbers, both sides.
-/
import Derived.Test.YtjfoimbeflobkabDoorThexL
import Derived.Test.YtjfoimbeflobkabDoorTjoin
import Derived.Test.YtjfoimbeflobkabDoorE1
namespace Go.Proofs.YtjfoimbeflobkabDoor
open Fl Go.RowKit Go.Proofs.YtjfoimbeflobkabDoorW.PrintWords
set_option linter.unusedVariables false

/-- A number's digits. -/
def hx (x : Nat) : ByteArray := hexS (bitsV (val .f32 x)).toNat
theorem hx_size (x : Nat) : (hx x).size = 8 := hexS_size _
theorem hx_len (x : Nat) : (hx x).data.toList.length = 8 := hexFix_len 8 _

/-- The text of a list. -/
def textF (xs : List Nat) : ByteArray := joinS (xs.map hx)

theorem joinTail_cons (sep x : List UInt8) (r : List (List UInt8)) : Lib.joinTail sep (x :: r) = sep ++ x ++ Lib.joinTail sep r := rfl
theorem joinTail_snoc (sep : List UInt8) (r : List (List UInt8)) (p : List UInt8) : Lib.joinTail sep (r ++ [p]) = Lib.joinTail sep r ++ (sep ++ p) := by simp [Lib.joinTail]

theorem join_snoc (l : List (List UInt8)) (p : List UInt8) (h : l ≠ []) : Lib.join (l ++ [p]) [44] = Lib.join l [44] ++ (44 :: p) := by
  cases l with
  | nil => exact absurd rfl h
  | cons x r =>
    rw [List.cons_append, Lib.join_cons, Lib.join_cons, joinTail_snoc]
    simp

/-- The first k joined. -/
def joinN (xs : List Nat) (k : Nat) : ByteArray := ⟨(Lib.join ((xs.take k).map fun x => (hx x).data.toList) [44]).toArray⟩

theorem joinN_one (xs : List Nat) (h : 0 < xs.length) : joinN xs 1 = hx (xs.getD 0 0) := by
  cases xs with
  | nil => exact absurd h (Nat.lt_irrefl 0)
  | cons x r =>
    have e : (x :: r).take 1 = [x] := rfl
    unfold joinN
    rw [e, List.map_cons, Lib.join_cons]
    simp [Lib.joinTail]

theorem joinN_succ (xs : List Nat) (k : Nat) (h0 : 0 < k) (h : k < xs.length) : joinN xs (k + 1) = joinN xs k ++ (⟨#[44]⟩ ++ hx (xs.getD k 0)) := by
  have e : xs.getD k 0 = xs[k] := by rw [List.getD_eq_getElem?_getD, List.getElem?_eq_getElem h]; rfl
  unfold joinN
  rw [List.take_succ_eq_append_getElem h, List.map_append, List.map_cons, List.map_nil, join_snoc _ _ (by intro e; have := congrArg List.length e; rw [List.length_map, List.length_take, List.length_nil] at this; omega), e]
  apply ByteArray.ext
  rw [ByteArray.data_append, ByteArray.data_append]
  apply Array.toList_inj.1
  simp

theorem joinN_all (xs : List Nat) (h : 0 < xs.length) : joinN xs xs.length = textF xs := by
  have hne : xs.map hx ≠ [] := by intro e; have := congrArg List.length e; rw [List.length_map, List.length_nil] at this; omega
  unfold joinN textF joinS
  rw [if_neg hne, List.take_length, List.map_map]
  rfl

theorem joinTail_len : ∀ l : List Nat, (Lib.joinTail [44] (l.map fun x => (hx x).data.toList)).length = 9 * l.length
  | [] => rfl
  | x :: r => by
    rw [List.map_cons]
    rw [joinTail_cons, List.length_append, List.length_append, joinTail_len r, hx_len, List.length_cons]
    show 1 + 8 + 9 * r.length = 9 * (r.length + 1)
    omega

theorem join_len9 (l : List Nat) : (Lib.join (l.map fun x => (hx x).data.toList) [44]).length ≤ 9 * l.length := by
  cases l with
  | nil => simp [Lib.join_nil]
  | cons x r =>
    rw [List.map_cons, Lib.join_cons, List.length_append, joinTail_len, hx_len]
    simp; omega

theorem joinN_size (xs : List Nat) (k : Nat) : (joinN xs k).size ≤ 9 * k := by
  have h := join_len9 (xs.take k)
  show (Lib.join ((xs.take k).map fun x => (hx x).data.toList) [44]).toArray.size ≤ _
  rw [List.size_toArray]
  have : (xs.take k).length ≤ k := by rw [List.length_take]; omega
  omega

theorem spec_l01NText (A : Option Addr) (cap : Nat) (xs : List Nat) (n : Nat) (hn : xs.length = n) (hle : n ≤ 256) (w : World) (hA : FloatsAt w w.heap.size A xs) :
    Calls Tryd.prog 30 #[.slice A n cap] w fun e w' => e = .returned (.string (textF xs)) ∧ Below w.heap.size w w' := by
  by_cases h0 : n = 0
  · subst h0
    obtain rfl : xs = [] := List.length_eq_zero_iff.1 hn
    clear hA hn hle
    go_enter Tryd.func30, Tryd.ntmps30
    go_wp2_with fail
    go_ret
    exact ⟨rfl, Below.refl _ _⟩
  · have b0 : ((n : Int) == 0) = false := by simp; omega
    have b1 : (0 : Int) < (n : Int) := by omega
    obtain ⟨b, off, rfl, hbl, hcell, hxl⟩ := hA 0 (by omega)
    have HA : Hid (FloatsAt w w.heap.size (some ⟨b, off, none⟩) xs) := hA
    have HN : Hid (xs.length = n) := hn
    have h1 := joinN_one xs (by omega)
    have hall : joinN xs n = textF xs := by have := joinN_all xs (by omega); rw [hn] at this; exact this
    have hhex := fun w => spec_l01Hex (xs.getD 0 0) hxl w
    have HH : Hid (∀ w, Calls Tryd.prog 42 #[.float .f32 (xs.getD 0 0)] w fun e w' => e = .returned (.string (joinN xs 1)) ∧ Below w.heap.size w w') := by rw [h1]; exact hhex
    have HALL := Lib.hid hall
    rw [Nat.add_zero] at hcell
    have hlt1 : 1 ≤ n := by omega
    clear hA hn h1 hall hhex h0
    go_enter Tryd.func30, Tryd.ntmps30
    go_wp2_with (first | (go_at_call 42; refine (HH.out _).mono ?_; rintro e w1 ⟨rfl, hb1⟩) | fail)
    go_loopw [3, 4] (fun t i wr => ∃ (k : Nat) (s : ByteArray), k ≤ n ∧ 1 ≤ k ∧ i = .int .i64 (k : Int) ∧ t = .string s ∧ Hid (s = joinN xs k) ∧ Below w.heap.size w wr) (fun _ i _ => n - (intOf i).toNat)
    case atStart => exact ⟨1, joinN xs 1, hlt1, Nat.le_refl _, rfl, rfl, by exact rfl, hb1⟩
    case round =>
      clear hcell hb1 HH
      obtain ⟨k, s, hk, hk1, rfl, rfl, hs, hb⟩ := hrel
      have hss : s.size ≤ 4000 := by rw [hs.out]; have := joinN_size xs k; omega
      by_cases hlt : k < n
      · have c1 : (k : Int) < (n : Int) := by omega
        have c2 : (0 : Int) ≤ (k : Int) := by omega
        have c3 : (k : Int) ≤ 256 := by omega
        obtain ⟨b', off', he, hbl', hcell', hxl'⟩ := HA.out k (by rw [HN.out]; exact hlt)
        cases he
        have hc := (hb.cell hbl').trans hcell'
        have hhex := fun w => spec_l01Hex (xs.getD k 0) hxl' w
        obtain ⟨q, hq⟩ : ∃ q, q = hx (xs.getD k 0) := ⟨_, rfl⟩
        have hqs : q.size = 8 := by rw [hq]; exact hx_size _
        have HH : Hid (∀ w, Calls Tryd.prog 42 #[.float .f32 (xs.getD k 0)] w fun e w' => e = .returned (.string q) ∧ Below w.heap.size w w') := by rw [hq]; exact hhex
        have hj := joinN_succ xs k hk1 (by rw [HN.out]; exact hlt)
        rw [← hq, ← hs.out] at hj
        have HJ := Lib.hid hj
        clear hhex hq hj hcell'
        generalize xs.getD k 0 = x at *
        go_wp2_with (first | (go_at_call 42; refine (HH.out _).mono ?_; rintro e w1 ⟨rfl, hb1⟩) | fail)
        go_roundw
        case rel => exact ⟨k + 1, _, hlt, by omega, by simp, rfl, by exact HJ.out.symm, hex_next hb hb1⟩
        case measure => simp [intOf]; omega
      · obtain rfl : k = n := by omega
        go_wp2_with fail
        go_ret
        exact ⟨by rw [← HALL.out, ← hs.out]; rfl, hb⟩

theorem hx_map_len (xs : List Nat) : (Lib.join ((xs.map hx).map (·.data.toList)) [44]).length ≤ 9 * xs.length := by
  rw [List.map_map]
  exact join_len9 xs

/-- The digits of the first k numbers. -/
def hexVals (xs : List Nat) (k : Nat) : List Value := ((xs.take k).map hx).map Value.string
theorem hexVals_len (xs : List Nat) (k : Nat) (h : k ≤ xs.length) : (hexVals xs k).length = k := by simp [hexVals]; omega
theorem hexVals_succ (xs : List Nat) (k : Nat) (h : k < xs.length) : hexVals xs (k + 1) = hexVals xs k ++ [.string (hx (xs.getD k 0))] := by
  have e : xs.getD k 0 = xs[k] := by rw [List.getD_eq_getElem?_getD, List.getElem?_eq_getElem h]; rfl
  unfold hexVals
  rw [List.take_succ_eq_append_getElem h, List.map_append, List.map_append, e]
  rfl

theorem impl_NumbersText_few (A : Option Addr) (cap : Nat) (xs : List Nat) (n : Nat) (hn : xs.length = n) (hle : n ≤ 256) (w : World) (hA : FloatsAt w w.heap.size A xs) (hz : TabZ w) :
    Calls Tryd.prog 15 #[.slice A n cap] w fun e w' => e = .returned (.tuple #[.string (textF xs), .bool true]) ∧ Below w.heap.size w w' := by
  have HA : Hid (FloatsAt w w.heap.size A xs) := hA
  have HN : Hid (xs.length = n) := hn
  have HZ : Hid (TabZ w) := hz
  have b0 : ¬ (256 : Int) < (n : Int) := by omega
  clear hA hn hz
  go_enter Tryd.func15, Tryd.ntmps15
  go_wp2_with fail
  go_loopw [4, 13] (fun t i wr => ∃ k : Nat, k ≤ n ∧ i = .int .i64 (k : Int) ∧ Hid (wr.ownsRow w.heap.size 9 1 t (hexVals xs k).length (hexVals xs k)) ∧ Below w.heap.size w wr) (fun _ i _ => n - (intOf i).toNat)
  case atStart => exact ⟨0, Nat.zero_le _, rfl, by exact World.ownsRow_made _ _ _ (Nat.le_refl _) (by decide) (by simp), Below.alloc (Below.refl _ _) (Nat.le_refl _) _⟩
  case round =>
    obtain ⟨k, hk, rfl, hown, hb⟩ := hrel
    by_cases hlt : k < n
    · have c1 : (k : Int) < (n : Int) := by omega
      have c2 : (0 : Int) ≤ (k : Int) := by omega
      have c3 : (k : Int) ≤ 256 := by omega
      obtain ⟨b', off', rfl, hbl', hcell', hxl'⟩ := HA.out k (by rw [HN.out]; exact hlt)
      have hc := (hb.cell hbl').trans hcell'
      have hhex := impl_hexOf (xs.getD k 0) hxl'
      obtain ⟨q, hq⟩ : ∃ q, q = hx (xs.getD k 0) := ⟨_, rfl⟩
      have HH : Hid (∀ w, TabZ w → Calls Tryd.prog 31 #[.float .f32 (xs.getD k 0)] w fun e w' => e = .returned (.string q) ∧ Below w.heap.size w w') := by rw [hq]; exact hhex
      have hj := hexVals_succ xs k (by rw [HN.out]; exact hlt)
      rw [← hq] at hj
      have HJ := Lib.hid hj
      have hlen : (hexVals xs k).length ≤ 256 := by rw [hexVals_len xs k (by rw [HN.out]; exact hk)]; omega
      clear hhex hq hj hcell'
      generalize xs.getD k 0 = x at *
      go_wp2_with (first | (go_at_call 31; refine (HH.out _ (HZ.out.below hb)).mono ?_; rintro e w1 ⟨rfl, hb1⟩; have K1 : Below w.heap.size w w1 := hex_next hb hb1; have O1 := pw_own_below (Hid.out hown) hb1) | (at_builtin; refine print_append (w0 := w) w.heap.size rfl (.tmp 17) (.tmp 20) 48 9 (.string ByteArray.empty) 16 rfl Tryd.underlying48 (by kernel_rfl) rfl (by decide) u4 (hexVals xs k) (.string q) (by rfl) (by rfl) rfl O1 K1 K1.size (by omega) ?_; intro v3 w3 hown3 K3 hg3 hat3; clear hat3 hg3) | fail)
      have HO3 := Lib.hid hown3
      clear hown3
      go_roundw
      case rel => exact ⟨k + 1, hlt, by simp, by rw [HJ.out]; exact HO3.out, K3⟩
      case measure => simp [intOf]; omega
    · obtain rfl : k = n := by omega
      have hown' := hown.out
      have e1 : hexVals xs k = (xs.map hx).map Value.string := by unfold hexVals; rw [← HN.out, List.take_length]
      rw [e1, List.length_map] at hown'
      have HO := Lib.hid hown'
      have HJ : Hid ((Lib.join ((xs.map hx).map (·.data.toList)) [44]).length ≤ 1000000) := by have := hx_map_len xs; have h2 := HN.out; show _ ≤ _; omega
      have HL : Hid ((xs.map hx).length ≤ 1000000) := by have h2 := HN.out; show (xs.map hx).length ≤ 1000000; rw [List.length_map]; omega
      have HE : Hid (joinS (xs.map hx) = textF xs) := rfl
      clear hown hown' e1
      go_wp2_with (first | (go_at_call 32; refine (impl_joined w.heap.size _ (xs.map hx) _ HO.out HJ.out HL.out).mono ?_; rintro e w2 ⟨rfl, hb2⟩) | fail)
      go_ret2
      exact ⟨by rw [HE.out]; rfl, hex_next hb hb2⟩

theorem impl_NumbersText_many (A : Option Addr) (cap n : Nat) (hle : ¬ n ≤ 256) (w : World) :
    Calls Tryd.prog 15 #[.slice A n cap] w fun e w' => e = .returned (.tuple #[.string ⟨#[]⟩, .bool false]) ∧ w = w' := by
  have b0 : (256 : Int) < (n : Int) := by omega
  go_enter Tryd.func15, Tryd.ntmps15
  go_wp2_with fail
  go_ret2
  exact ⟨rfl, rfl⟩

/-- What NumbersText returns. -/
def numF (xs : List Nat) : ByteArray × Bool := if xs.length ≤ 256 then (textF xs, true) else (⟨#[]⟩, false)

theorem impl_NumbersText (A : Option Addr) (cap : Nat) (xs : List Nat) (n : Nat) (hn : xs.length = n) (w : World) (hA : FloatsAt w w.heap.size A xs) (hz : TabZ w) :
    Calls Tryd.prog 15 #[.slice A n cap] w fun e w' => e = .returned (.tuple #[.string (numF xs).1, .bool (numF xs).2]) ∧ Below w.heap.size w w' := by
  by_cases h : n ≤ 256
  · have e : numF xs = (textF xs, true) := if_pos (by omega)
    rw [e]
    exact impl_NumbersText_few A cap xs n hn h w hA hz
  · have e : numF xs = (⟨#[]⟩, false) := if_neg (by omega)
    rw [e]
    refine (impl_NumbersText_many A cap n h w).mono ?_
    rintro e w' ⟨rfl, rfl⟩
    exact ⟨rfl, Below.refl _ _⟩

theorem spec_l01Few_n (A : Option Addr) (cap n : Nat) (w : World) : Calls Tryd.prog 29 #[.slice A n cap] w fun e w' => e = .returned (.bool (decide (n ≤ 256))) ∧ w = w' := by
  by_cases h : n ≤ 256
  · rw [decide_eq_true h]
    have b1 : (n : Int) ≤ 256 := by omega
    go_enter Tryd.func29, Tryd.ntmps29
    go_wp2_with fail
    go_ret
    exact ⟨rfl, rfl⟩
  · rw [decide_eq_false h]
    have b1 : ¬ (n : Int) ≤ 256 := by omega
    go_enter Tryd.func29, Tryd.ntmps29
    go_wp2_with fail
    go_ret
    exact ⟨rfl, rfl⟩

theorem spec_NumbersText (A : Option Addr) (cap : Nat) (xs : List Nat) (n : Nat) (hn : xs.length = n) (w : World) (hA : FloatsAt w w.heap.size A xs) :
    Calls Tryd.prog 13 #[.slice A n cap] w fun e w' => e = .returned (.tuple #[.string (numF xs).1, .bool (numF xs).2]) ∧ Below w.heap.size w w' := by
  have hfew := spec_l01Few_n A cap n
  have HA : Hid (FloatsAt w w.heap.size A xs) := hA
  have HN : Hid (xs.length = n) := hn
  by_cases h : n ≤ 256
  · have e : numF xs = (textF xs, true) := if_pos (by omega)
    rw [e]
    rw [decide_eq_true h] at hfew
    have HF := Lib.hid hfew
    clear hfew e hA hn
    go_enter Tryd.func13, Tryd.ntmps13
    go_wp2_with (first | (go_at_call 29; refine (HF.out _).mono ?_; rintro e w' ⟨rfl, rfl⟩) | (go_at_call 30; refine (spec_l01NText _ _ xs _ HN.out h _ HA.out).mono ?_; rintro e w1 ⟨rfl, hb1⟩) | fail)
    go_ret2
    exact ⟨rfl, hb1⟩
  · have e : numF xs = (⟨#[]⟩, false) := if_neg (by omega)
    rw [e]
    rw [decide_eq_false h] at hfew
    have HF := Lib.hid hfew
    clear hfew e hA hn
    go_enter Tryd.func13, Tryd.ntmps13
    go_wp2_with (first | (go_at_call 29; refine (HF.out _).mono ?_; rintro e w' ⟨rfl, rfl⟩) | fail)
    go_ret2
    exact ⟨rfl, Below.refl _ _⟩
end Go.Proofs.YtjfoimbeflobkabDoor
