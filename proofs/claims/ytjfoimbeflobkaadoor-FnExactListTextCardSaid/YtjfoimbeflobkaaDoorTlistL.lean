/-
  Contracts: the text of a list of numbers, both sides; the law ListText.
-/
import Derived.Test.YtjfoimbeflobkaaDoorTlist
import Derived.Test.YtjfoimbeflobkaaDoorTdecL
import Derived.Test.YtjfoimbeflobkaaDoorShelfJoin
import Derived.OwnWalk
import Derived.Lib.Hide
namespace Go.Proofs.YtjfoimbeflobkaaDoor
open Go.RowKit Go.Proofs.YtjfoimbeflobkaaDoorW.PrintWords
set_option linter.unusedVariables false

/-- Texts with commas between them. -/
def joinS (xs : List ByteArray) : ByteArray := if xs = [] then ⟨#[110, 111, 110, 101]⟩ else ⟨(Lib.join (xs.map (·.data.toList)) [44]).toArray⟩

theorem impl_joined (base : Nat) (v : Value) (xs : List ByteArray) (w : World) (h : w.ownsRow base 9 1 v xs.length (xs.map Value.string)) (hlen : (Lib.join (xs.map (·.data.toList)) [44]).length ≤ 1000000) (hn : xs.length ≤ 1000000) :
    Calls Tryd.prog 28 #[v] w fun e w' => e = .returned (.string (joinS xs)) ∧ Below w.heap.size w w' := by
  by_cases h0 : xs = []
  · subst h0
    obtain ⟨A, c, rfl⟩ := own_slice h
    have e : joinS [] = ⟨#[110, 111, 110, 101]⟩ := rfl
    rw [e]
    clear h hlen hn e
    have b0 : (([] : List ByteArray).length : Int) = 0 := rfl
    show Calls Tryd.prog 28 #[.slice A 0 c] w _
    go_enter Tryd.func28, Tryd.ntmps28
    go_wp2_with fail
    go_ret
    exact ⟨rfl, Below.refl _ _⟩
  · have hpos : 0 < xs.length := List.length_pos_iff.2 h0
    rcases h.2 with ⟨rfl, hz⟩ | ⟨g, cap, cur, rfl, hb, hh, hncap, hcm, hsz, htk⟩
    · omega
    · have hcell : ∀ (j : Nat) (x : ByteArray), xs[j]? = some x → w.cell? ⟨g, 0 + j, none⟩ = some (.string x) := by
        intro j x hx
        have hj : j < xs.length := by
          rcases Nat.lt_or_ge j xs.length with h | h
          · exact h
          · rw [List.getElem?_eq_none h] at hx; cases hx
        have := h.cells (g := g) rfl j (.string x) (by rw [List.getElem?_map, hx]; rfl)
        rw [Nat.zero_add]
        have ha : (⟨g, 0, none⟩ : Addr).add j = ⟨g, j, none⟩ := add_plain g j
        rw [ha] at this
        exact this
      have hg : g < w.heap.size := (Array.getElem?_eq_some_iff.1 hh).1
      have e : joinS xs = ⟨(Lib.join (xs.map (·.data.toList)) [44]).toArray⟩ := if_neg h0
      rw [e]
      have HC : Hid (∀ (j : Nat) (x : ByteArray), xs[j]? = some x → w.cell? ⟨g, 0 + j, none⟩ = some (.string x)) := hcell
      have b0 : ((xs.length : Int) == 0) = false := by simp; omega
      have H1 : Hid (xs.length ≤ cap) := hncap
      have H2 : Hid ((Lib.join (xs.map (·.data.toList)) [44]).length ≤ 1000000) := hlen
      have H3 : Hid (xs.length ≤ 1000000) := hn
      clear hcell h hb hh hncap hcm hsz htk h0 hpos e hlen hn
      go_enter Tryd.func28, Tryd.ntmps28
      go_wp2_with (first | (go_at_call 38; refine (Tryd.strings_Join g 0 cap xs ⟨#[44]⟩ _ HC.out hg (Nat.le_trans H3.out (by decide)) H1.out (Nat.le_trans H2.out (by decide))).mono ?_; rintro e w1 ⟨rfl, hb1⟩) | fail)
      go_ret
      exact ⟨rfl, hb1⟩

/-- The numerals of the first k numbers. -/
def decVals (l : List Int) (k : Nat) : List Value := (l.take k).map fun x => .string (decS x)

theorem decVals_len (l : List Int) (k : Nat) (h : k ≤ l.length) : (decVals l k).length = k := by simp [decVals]; omega
theorem decVals_succ (l : List Int) (k : Nat) (h : k < l.length) : decVals l (k + 1) = decVals l k ++ [.string (decS l[k])] := by
  unfold decVals
  rw [List.take_succ_eq_append_getElem h, List.map_append]
  rfl

theorem impl_listText (A : Option Addr) (cap : Nat) (l : List Int) (w : World) (hA : (Kd.int .i64).C w A l.length l) (hl : l.length ≤ 64) (hall : ∀ x ∈ l, inRange x = true) (ht : Tab w) :
    Calls Tryd.prog 22 #[.slice A l.length cap] w fun e w' => e = .returned (.string (textV l)) ∧ Below w.heap.size w w' := by
  have HA : Hid ((Kd.int .i64).C w A l.length l) := hA
  have HALL : Hid (∀ x ∈ l, inRange x = true) := hall
  have HT : Hid (Tab w) := ht
  clear hA hall ht
  go_enter Tryd.func22, Tryd.ntmps22
  go_wp2_with fail
  go_loopw [3, 5, 9] (fun t n i wr => ∃ k : Nat, k ≤ l.length ∧ i = .int .i64 (k : Int) ∧ Hid (wr.ownsRow w.heap.size 9 1 t (decVals l k).length (decVals l k)) ∧ Below w.heap.size w wr) (fun _ _ i _ => l.length - (intOf i).toNat)
  case atStart => exact ⟨0, Nat.zero_le _, rfl, by exact World.ownsRow_made _ _ _ (Nat.le_refl _) (by decide) (by simp), Below.alloc (Below.refl _ _) (Nat.le_refl _) _⟩
  case round =>
    obtain ⟨k, hk, rfl, hown, hb⟩ := hrel
    by_cases hlt : k < l.length
    · have b1 : (k : Int) < (l.length : Int) := by omega
      have b2 : (0 : Int) ≤ (k : Int) := by omega
      have b3 : (k : Int) < 64 := by omega
      obtain ⟨ad, rfl, hc⟩ := Kd.at_int HA.out (k : Int) b2 b1
      rw [rd_get l k hlt, Int.toNat_natCast] at hc
      have hcell := (hb.cell (World.block_lt_of_cell? _ _ hc)).trans hc
      have hr := inRange_iff.1 (HALL.out l[k] (List.getElem_mem hlt))
      have HR : Hid (-1000000000000000 ≤ l[k] ∧ l[k] ≤ 1000000000000000) := hr
      have HK : Hid (decVals l (k + 1) = decVals l k ++ [.string (decS l[k])]) := decVals_succ l k hlt
      have hlen : (decVals l k).length ≤ 64 := by rw [decVals_len l k hk]; omega
      clear hc hr
      go_wp2_with (first | (go_at_call 7; refine (impl_Decimal_any _ (by have := HR.out; omega) (by have := HR.out; omega) _ ((HT.out.below hb))).mono ?_; rintro e w2 ⟨rfl, hb2⟩; have K2 : Below w.heap.size w w2 := below_next hb hb2; have O2 := Hid.out hown; have O3 := pw_own_below O2 hb2) | (at_builtin; refine print_append (w0 := w) w.heap.size rfl _ _ 42 9 (.string ByteArray.empty) 16 rfl Tryd.underlying42 (by kernel_rfl) rfl (by decide) _ (decVals l k) (.string (decS l[k])) (by rfl) (by rfl) rfl O3 K2 K2.size (by omega) ?_; intro v1 w3 hown3 K3 hg3 hat3; clear hat3 hg3 O2 O3) | fail)
      go_roundw
      case rel => exact ⟨k + 1, hlt, by simp, by rw [HK.out]; exact hown3, K3⟩
      case measure => simp [intOf]; omega
    · obtain rfl : k = l.length := by omega
      have e1 : decVals l l.length = (l.map decS).map Value.string := by simp [decVals]
      have hown' := hown.out
      rw [e1, List.length_map] at hown'
      have hj := join_len l hl HALL.out
      have e2 : ((l.map decS).map (·.data.toList)) = l.map Lib.itoa := by rw [List.map_map]; rfl
      have e3 : joinS (l.map decS) = textV l := by
        unfold joinS textV
        rw [e2]
        cases l <;> simp
      have HJ : Hid ((Lib.join ((l.map decS).map (·.data.toList)) [44]).length ≤ 1000000) := by show (Lib.join _ _).length ≤ _; rw [e2]; omega
      have HN : Hid ((l.map decS).length ≤ 1000000) := by show (l.map decS).length ≤ _; rw [List.length_map]; omega
      have HE : Hid (joinS (l.map decS) = textV l) := e3
      clear e1 e2 e3 hj hown
      have HO := Lib.hid hown'
      clear hown'
      go_wp2_with (first | (go_at_call 28; refine (impl_joined w.heap.size _ (l.map decS) _ (HO.out) HJ.out HN.out).mono ?_; rintro e w2 ⟨rfl, hb2⟩) | fail)
      go_ret
      exact ⟨by rw [HE.out]; rfl, below_next hb hb2⟩

theorem impl_ListText (A : Option Addr) (cap : Nat) (l : List Int) (hl : l.length ≤ 1048576) (w : World) (hA : (Kd.int .i64).C w A l.length l) (hc : l.length ≤ cap) (ht : Tab w) :
    Calls Tryd.prog 12 #[.slice A l.length cap] w fun e w' => e = .returned (.tuple #[.string (if areB l then (textV l, true) else (⟨#[]⟩, false)).1, .bool (if areB l then (textV l, true) else (⟨#[]⟩, false)).2]) ∧ Below w.heap.size w w' := by
  have HA : Hid ((Kd.int .i64).C w A l.length l) := hA
  have HT : Hid (Tab w) := ht
  have hare : Calls Tryd.prog 21 #[.slice A l.length cap] w fun e w' => e = .returned (.bool (areB l)) ∧ Drawn0 w w' := PareValues.impl_areValues.calls (l.length + 1) A cap l _ w hA hc (implList_f l hl)
  have HARE : Hid (Calls Tryd.prog 21 #[.slice A l.length cap] w fun e w' => e = .returned (.bool (areB l)) ∧ Drawn0 w w') := hare
  clear hA ht hare
  cases hb : areB l
  · rw [if_neg (by decide)]
    go_enter Tryd.func12, Tryd.ntmps12
    go_wp2_with (first | (go_at_call 21; refine HARE.out.mono ?_; rintro e w1 ⟨rfl, hd⟩; rw [hb]) | fail)
    go_ret2
    exact ⟨rfl, hd.below⟩
  · obtain ⟨h1, h2⟩ := areB_true hb
    have H2 : Hid (∀ x ∈ l, inRange x = true) := h2
    clear h2
    rw [if_pos rfl]
    go_enter Tryd.func12, Tryd.ntmps12
    go_wp2_with (first | (go_at_call 21; refine HARE.out.mono ?_; rintro e w1 ⟨rfl, hd⟩; rw [hb]; have hb1 := hd.below; clear hd) | (go_at_call 22; refine (impl_listText _ _ l _ (Kd.C_below HA.out hb1) h1 H2.out (HT.out.below hb1)).mono ?_; rintro e w2 ⟨rfl, hb2⟩) | fail)
    go_ret2
    exact ⟨rfl, below_next hb1 hb2⟩

theorem fnExactListText_walk (w : World) (A : Option Addr) (cap : Nat) (l : List Int) (hc : l.length ≤ cap) (hA : (Kd.int .i64).C w A l.length l) (hwf : ∀ x ∈ l, (Lit.int .i64 x).wf = true) (ht : Tab w) :
    Calls Tryd.prog 5 #[.slice A l.length cap] w fun e w' => e = .returned (.bool true) ∧ Below w.heap.size w w' := by
  clear hwf
  by_cases hl : l.length ≤ 1048576
  · have b1 : ¬ (1048576 : Int) < (l.length : Int) := by omega
    obtain ⟨a, b, hab⟩ : ∃ (a : ByteArray) (b : Bool), (if areB l then (textV l, true) else (⟨#[]⟩, false)) = (a, b) := ⟨_, _, rfl⟩
    have h1 : ∀ (A : Option Addr) (c : Nat) (w : World), (Kd.int .i64).C w A l.length l → l.length ≤ c → Calls Tryd.prog 10 #[.slice A l.length c] w fun e w' => e = .returned (.tuple #[.string a, .bool b]) ∧ Below w.heap.size w w' := by
      intro A c w hA hc
      have h := specListText_f l hl
      rw [hab] at h
      exact PListText.spec_ListText.calls (l.length + 300) A c l a b w hA hc h
    have h2 := fun (A : Option Addr) (c : Nat) (w : World) (hA : (Kd.int .i64).C w A l.length l) (hc : l.length ≤ c) (ht : Tab w) => impl_ListText A c l hl w hA hc ht
    rw [hab] at h2
    have H1 : Hid (∀ (A : Option Addr) (c : Nat) (w : World), (Kd.int .i64).C w A l.length l → l.length ≤ c → Calls Tryd.prog 10 #[.slice A l.length c] w fun e w' => e = .returned (.tuple #[.string a, .bool b]) ∧ Below w.heap.size w w') := h1
    have H2 : Hid (∀ (A : Option Addr) (c : Nat) (w : World), (Kd.int .i64).C w A l.length l → l.length ≤ c → Tab w → Calls Tryd.prog 12 #[.slice A l.length c] w fun e w' => e = .returned (.tuple #[.string a, .bool b]) ∧ Below w.heap.size w w') := h2
    have HA : Hid ((Kd.int .i64).C w A l.length l) := hA
    have HC : Hid (l.length ≤ cap) := hc
    have HT : Hid (Tab w) := ht
    clear h1 h2 hA hc ht hab
    go_enter Tryd.func5, Tryd.ntmps5
    go_wp2_with (first | (go_at_call 11; first | (refine (laws_toInt64S _ _ l hl _ (Kd.C_below HA.out K4) HC.out).mono ?_; rintro e w5 ⟨A5, c5, rfl, hc5, hC5, hb5⟩; have F5 : Hid ((Kd.int .i64).C w5 A5 l.length l) := hC5; have F3 : Hid ((Kd.int .i64).C w5 A3 l.length l) := Kd.C_below (Kd.C_below F3.out hb4) hb5; have K5 := below_next K4 hb5; have L5 : Hid (l.length ≤ c5) := hc5; clear hC5 hc5) | (refine (laws_toInt64S _ _ l hl _ (Kd.C_below HA.out K2) HC.out).mono ?_; rintro e w3 ⟨A3, c3, rfl, hc3, hC3, hb3⟩; have F3 : Hid ((Kd.int .i64).C w3 A3 l.length l) := hC3; have K3 := below_next K2 hb3; have L3 : Hid (l.length ≤ c3) := hc3; clear hC3 hc3) | (refine (laws_toInt64S _ _ l hl _ HA.out HC.out).mono ?_; rintro e w1 ⟨A1, c1, rfl, hc1, hC1, hb1⟩; have F1 : Hid ((Kd.int .i64).C w1 A1 l.length l) := hC1; have L1 : Hid (l.length ≤ c1) := hc1; clear hC1 hc1)) | (go_at_call 10; refine (H1.out _ _ _ F1.out L1.out).mono ?_; rintro e w2 ⟨rfl, hb2⟩; have K2 := below_next hb1 hb2) | (go_at_call 12; refine (H2.out _ _ _ F3.out L3.out (HT.out.below K3)).mono ?_; rintro e w4 ⟨rfl, hb4⟩; have K4 := below_next K3 hb4) | (go_at_call 13; refine (laws_eqInt64S _ _ _ _ l hl _ F3.out L3.out F5.out L5.out).mono ?_; rintro e w' ⟨rfl, m6, rfl⟩) | fail)
    go_ret
    exact ⟨rfl, below_drewN K5 _⟩
  · have b1 : (1048576 : Int) < (l.length : Int) := by omega
    go_enter Tryd.func5, Tryd.ntmps5
    go_wp2_with fail
    go_ret
    exact ⟨rfl, Below.refl _ _⟩

end Go.Proofs.YtjfoimbeflobkaaDoor
