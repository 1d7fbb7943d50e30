/-
  Contracts: a number's hexadecimal digits, both sides.
-/
import Derived.Test.YtjfoimbeflobkabDoorThex
import Derived.Test.YtjfoimbeflobkabDoorA2
import Derived.Test.YtjfoimbeflobkabDoorWWords
import Derived.OwnWalk
import Derived.Laws.OwnMore
import Derived.Deep.AppendLies
import Derived.Lib.ConvBytes
import Derived.Lib.Hide
import Derived.Test.YtjfoimbeflobkabDoorTtab
import Derived.Test.YtjfoimbeflobkabDoorShelfRepeat
import Derived.Lib.TrailingZeros
namespace Go.Proofs.YtjfoimbeflobkabDoor
open Fl Go.RowKit Go.Proofs.YtjfoimbeflobkabDoorW.PrintWords
set_option linter.unusedVariables false

theorem bitsV_range {x : Nat} (hx : x < 4294967296) : 0 ≤ bitsV (val .f32 x) ∧ bitsV (val .f32 x) < 4294967296 := by
  cases h : val .f32 x with
  | none => decide
  | some b =>
    have h2 : b < 2 ^ FloatKind.f32.format.width := val_lt h hx
    have h3 : 2 ^ FloatKind.f32.format.width = 4294967296 := by decide
    have h4 : bitsV (some b) = (b : Int) := rfl
    rw [h4]
    omega

def codes (l : List UInt8) : List Int := l.map fun c => (c.toNat : Int)
theorem codes_len (l : List UInt8) : (codes l).length = l.length := by simp [codes]

theorem strOfNums_codes (l : List UInt8) : strOfNums (codes l) = ⟨l.toArray⟩ := by
  unfold strOfNums codes
  rw [List.map_map]
  congr 2
  conv => rhs; rw [← List.map_id l]
  apply List.map_congr_left
  intro c _
  show UInt8.ofNat ((c.toNat : Int)).toNat = c
  rw [Int.toNat_natCast]
  exact UInt8.ofNat_toNat

theorem codes_getD (l : List UInt8) (i : Nat) (h : i < l.length) : (codes l).getD i 0 = ((l[i]).toNat : Int) := by
  unfold codes
  rw [List.getD_eq_getElem?_getD, List.getElem?_map, List.getElem?_eq_getElem h]
  rfl

theorem codes_snoc (l : List UInt8) (c : UInt8) : codes (l ++ [c]) = codes l ++ [(c.toNat : Int)] := by simp [codes]

theorem digit16 (e : Nat) (h : e < (⟨#[48, 49, 50, 51, 52, 53, 54, 55, 56, 57, 97, 98, 99, 100, 101, 102]⟩ : ByteArray).size) : (⟨#[48, 49, 50, 51, 52, 53, 54, 55, 56, 57, 97, 98, 99, 100, 101, 102]⟩ : ByteArray)[e] = hexD e := by
  have k : ∀ e : Fin 16, (⟨#[48, 49, 50, 51, 52, 53, 54, 55, 56, 57, 97, 98, 99, 100, 101, 102]⟩ : ByteArray)[e.val]'(e.isLt) = hexD e.val := by decide
  exact k ⟨e, h⟩

theorem digit36 (e : Nat) (h : e < 16) (h' : e < (⟨#[48, 49, 50, 51, 52, 53, 54, 55, 56, 57, 97, 98, 99, 100, 101, 102, 103, 104, 105, 106, 107, 108, 109, 110, 111, 112, 113, 114, 115, 116, 117, 118, 119, 120, 121, 122]⟩ : ByteArray).size) : (⟨#[48, 49, 50, 51, 52, 53, 54, 55, 56, 57, 97, 98, 99, 100, 101, 102, 103, 104, 105, 106, 107, 108, 109, 110, 111, 112, 113, 114, 115, 116, 117, 118, 119, 120, 121, 122]⟩ : ByteArray)[e] = hexD e := by
  have k : ∀ e : Fin 16, (⟨#[48, 49, 50, 51, 52, 53, 54, 55, 56, 57, 97, 98, 99, 100, 101, 102, 103, 104, 105, 106, 107, 108, 109, 110, 111, 112, 113, 114, 115, 116, 117, 118, 119, 120, 121, 122]⟩ : ByteArray)[e.val]'(Nat.lt_of_lt_of_le e.isLt (by decide)) = hexD e.val := by decide
  exact k ⟨e, h⟩

theorem spec_l01Hex (x : Nat) (hx : x < 4294967296) (w : World) : Calls Tryd.prog 42 #[.float .f32 x] w fun e w' => e = .returned (.string (hexS (bitsV (val .f32 x)).toNat)) ∧ Below w.heap.size w w' := by
  obtain ⟨h0, h1⟩ := bitsV_range hx
  obtain ⟨n, hn⟩ : ∃ n : Nat, bitsV (val .f32 x) = (n : Int) := ⟨(bitsV (val .f32 x)).toNat, by omega⟩
  rw [hn] at h0 h1 ⊢
  have hn' : n < 4294967296 := by omega
  have hb := spec_l01Bits x hx
  rw [hn] at hb
  have HB : Hid (∀ w, Calls Tryd.prog 48 #[.float .f32 x] w fun e w' => e = .returned (.int .i64 (n : Int)) ∧ w' = w) := hb
  rw [Int.toNat_natCast]
  clear hb hn h0 h1 hx
  go_enter Tryd.func42, Tryd.ntmps42
  go_wp2_with (first | (go_at_call 48; refine (HB.out _).mono ?_; rintro e w' ⟨rfl, hw⟩; obtain rfl := hw.symm) | fail)
  go_loopw [4, 5] (fun t i wr => ∃ (j : Nat) (d : Int), j ≤ 8 ∧ i = .int .i64 d ∧ Hid (d = 28 - 4 * (j : Int)) ∧ Hid (wr.ownsRow w.heap.size 5 1 t (codes (hexFix j (n / 2 ^ (32 - 4 * j)))).length (nums .u8 (codes (hexFix j (n / 2 ^ (32 - 4 * j)))))) ∧ Below w.heap.size w wr) (fun _ i _ => (intOf i + 4).toNat)
  case atStart => exact ⟨0, 28, by omega, rfl, by exact rfl, by exact World.ownsRow_made _ _ _ (Nat.le_refl _) (by decide) (by simp), Below.alloc (Below.refl _ _) (Nat.le_refl _) _⟩
  case round =>
    obtain ⟨j, d, hj, rfl, hd, hown, hb⟩ := hrel
    by_cases hlt : j < 8
    · have b1 : (0 : Int) ≤ d := by have := hd.out; omega
      have b2 : d ≤ 28 := by have := hd.out; omega
      have hdn : d.toNat = 28 - 4 * j := by have := hd.out; omega
      obtain ⟨e, he⟩ : ∃ e : Nat, e = n / 2 ^ (28 - 4 * j) % 16 := ⟨_, rfl⟩
      have he16 : e < 16 := by omega
      have hbits : bits .and .i64 ((n : Int) / 2 ^ d.toNat) 15 = (e : Int) := by
        have e1 : (n : Int) / 2 ^ d.toNat = ((n / 2 ^ (28 - 4 * j) : Nat) : Int) := by rw [hdn]; simp
        have e2 : n / 2 ^ (28 - 4 * j) ≤ n := Nat.div_le_self _ _
        rw [e1, show (15 : Int) = ((15 : Nat) : Int) from rfl, i64_and_nat _ _ (by omega) (by omega), he]
        congr 1
        exact Nat.and_two_pow_sub_one_eq_mod _ 4
      have hlen : (codes (hexFix j (n / 2 ^ (32 - 4 * j)))).length ≤ 8 := by rw [codes_len, hexFix_len]; omega
      have hnext : hexFix (j + 1) (n / 2 ^ (32 - 4 * (j + 1))) = hexFix j (n / 2 ^ (32 - 4 * j)) ++ [hexD e] := by
        have e3 : 32 - 4 * (j + 1) = 28 - 4 * j := by omega
        have e4 : n / 2 ^ (28 - 4 * j) / 16 = n / 2 ^ (32 - 4 * j) := by
          rw [Nat.div_div_eq_div_mul, show (16 : Nat) = 2 ^ 4 from rfl, ← Nat.pow_add, show 28 - 4 * j + 4 = 32 - 4 * j by omega]
        rw [e3, hexFix, e4, he]
      have HNX := Lib.hid hnext
      have HDN := Lib.hid hdn
      clear hdn he hnext
      clear hj
      have hlt8 := Lib.hid hlt
      clear hlt
      go_wp2_with (first | (at_builtin; go_loud (refine print_append_num (w0 := w) w.heap.size rfl (.tmp 13) (.tmp 20) 76 5 .u8 1 rfl Tryd.underlying76 (by kernel_rfl) (by decide) u4 _ _ rfl rfl (Hid.out hown) hb hb.size (by omega) ?_); intro v3 w3 hown3 K3 hg3 hat3) | fail)
      rw [digit16, ← codes_snoc, ← HNX.out] at hown3
      have HO3 := Lib.hid hown3
      clear hown3 hg3 hat3
      go_roundw
      case rel => exact ⟨j + 1, d - 4, by have := hlt8.out; omega, by simp, by have := hd.out; show d - 4 = 28 - 4 * ((j + 1 : Nat) : Int); omega, by exact HO3.out, K3⟩
      case measure => simp [intOf]; omega
    · obtain rfl : j = 8 := by omega
      have b1 : d = -4 := by have := hd.out; omega
      subst b1
      have hcv := own_string (P := Tryd.prog) Tryd.underlying76 Tryd.underlying5 Tryd.underlying9 hown.out
      clear hlt hj
      go_wp2_with fail
      go_ret
      exact ⟨by show Ending.returned (Value.string (strOfNums (codes (hexFix 8 n)))) = _; rw [strOfNums_codes]; rfl, hb⟩

/-! ### The program's side -/

/-- The library's table of trailing noughts. -/
def db64Name : String := match Rows.fnExactReadListRow.laid with | _ :: x :: _ => x.1 | _ => default
def zTab : List Int := Lib.deBruijn64tab.map fun n : Nat => (n : Int)
def TabZ (w : World) : Prop := Lib.TabIs Tryd.prog w db64Name .u8 zTab
theorem gTabZ : Tryd.prog.globalNamed db64Name = some 6 := by kernel_rfl
theorem TabZ.below {w w' : World} (h : TabZ w) (hb : Below w.heap.size w w') : TabZ w' := by
  have hc := Lib.TabIs.cell h gTabZ 0 (by decide)
  exact var?_below hb gTabZ (World.block_lt_of_cell? _ _ hc) h
theorem TabZ.of {w : World} {a : String × DataW Unit} {r : List (String × DataW Unit)} (h : laidMet Tryd.prog (a :: (db64Name, Lib.tabData .u8 zTab) :: r) w) : TabZ w :=
  Lib.tabIs_of_head gTabZ (t := 132) (e := 5) (n := 64) (by kernel_rfl) (by kernel_rfl) (by kernel_rfl) (by kernel_rfl) (by kernel_rfl) (laidMet.tail h)

theorem isPower16 (w : World) : Calls Tryd.prog 91 #[.int .i64 16] w fun e w' => e = .returned (.bool true) ∧ w = w' := by
  go_enter Tryd.func91, Tryd.ntmps91
  go_wp2_with fail
  go_ret
  exact ⟨rfl, rfl⟩

theorem trailing16 (w : World) (hz : TabZ w) : Calls Tryd.prog 92 #[.int .u64 16] w fun e w' => e = .returned (.int .i64 4) ∧ w = w' := by
  have hc : w.cell? ⟨6, 15, none⟩ = some (.int .u8 4) := Lib.TabIs.cell hz gTabZ 15 (by decide)
  have hi : IntKind.u64.wrap (bits .and .u64 16 (IntKind.u64.wrap (-16)) * 285870213051353865) / 288230376151711744 = 15 := by decide
  have h1 : Calls Tryd.prog 103 #[.int .u64 16] w fun e w' => e = .returned (.int .i64 4) ∧ w = w' := by
    go_enter Tryd.func103, Tryd.ntmps103
    go_wp2_with fail
    go_ret
    exact ⟨rfl, rfl⟩
  go_enter Tryd.func92, Tryd.ntmps92
  go_wp2_with (first | (go_at_call 103; refine h1.mono ?_; rintro e w' ⟨rfl, rfl⟩) | fail)
  go_ret
  exact ⟨rfl, rfl⟩

/-- What the array of digits holds. -/
def DigAt (w : World) (g : Nat) (tl : List UInt8) : Prop :=
  (∀ j, j < 65 → ∃ y : Int, w.cell? ⟨g, j, none⟩ = some (.int .u8 y) ∧ w.frozen? ⟨g, j, none⟩ = false) ∧ ∀ k (h : k < tl.length), w.cell? ⟨g, 65 - tl.length + k, none⟩ = some (.int .u8 (tl[k].toNat : Int))

theorem DigAt.set {w : World} {g : Nat} {tl : List UInt8} (h : DigAt w g tl) (c : UInt8) (hl : tl.length < 65) : DigAt (w.setCell ⟨g, 64 - tl.length, none⟩ (.int .u8 (c.toNat : Int))) g (c :: tl) := by
  obtain ⟨h1, h2⟩ := h
  obtain ⟨y0, hy0, _⟩ := h1 (64 - tl.length) (by omega)
  have hs := World.cell?_setCell_same w ⟨g, 64 - tl.length, none⟩ (.int .u8 (c.toNat : Int)) hy0
  have ho : ∀ j, j ≠ 64 - tl.length → (w.setCell ⟨g, 64 - tl.length, none⟩ (.int .u8 (c.toNat : Int))).cell? ⟨g, j, none⟩ = w.cell? ⟨g, j, none⟩ := fun j hj => World.cell?_setCell_other _ _ _ _ (by first | (simp; done) | (simp; omega))
  refine ⟨fun j hj => ?_, fun k hk => ?_⟩
  · obtain ⟨y, hy, hz⟩ := h1 j hj
    by_cases e : j = 64 - tl.length
    · subst e; exact ⟨_, hs, by simpa [go_sem] using hz⟩
    · exact ⟨y, (ho j e).trans hy, by simpa [go_sem] using hz⟩
  · simp only [List.length_cons] at hk ⊢
    cases k with
    | zero => rw [show 65 - (tl.length + 1) + 0 = 64 - tl.length by omega]; exact hs
    | succ k =>
      rw [show 65 - (tl.length + 1) + (k + 1) = 65 - tl.length + k by omega, ho _ (by omega)]
      exact h2 k (by omega)

set_option maxRecDepth 6000 in
theorem formatBits16 (n : Nat) (hn : n < 4294967296) (w : World) (hz : TabZ w) :
    Calls Tryd.prog 73 #[.slice none 0 0, .int .u64 (n : Int), .int .i64 16, .bool false, .bool false] w fun e w' => e = .returned (.tuple #[.slice none 0 0, .string ⟨(hexRaw n).toArray⟩]) ∧ Below w.heap.size w w' := by
  have HZ : Hid (TabZ w) := hz
  have HLEN : Hid ((hexRaw n).length ≤ 8) := (hexS_pad n hn).1
  clear hz
  go_enter Tryd.func73, Tryd.ntmps73
  go_wp2_with (first | (go_at_call 91; refine (isPower16 _).mono ?_; rintro e w' ⟨rfl, rfl⟩) | (go_at_call 92; refine (trailing16 _ (HZ.out.below (Below.alloc (Below.refl _ _) (Nat.le_refl _) _))).mono ?_; rintro e w' ⟨rfl, rfl⟩) | fail)
  go_loopw [1, 13] (fun u i wr => ∃ (a : Nat) (d : Int) (tl : List UInt8), u = .int .u64 (a : Int) ∧ i = .int .i64 d ∧ Hid (d = 65 - (tl.length : Int)) ∧ Hid (a < 4294967296) ∧ Hid (hexRaw n = hexRaw a ++ tl) ∧ Hid (DigAt wr w.heap.size tl) ∧ Below w.heap.size w wr) (fun u _ _ => (intOf u).toNat)
  case atStart =>
    refine ⟨n, 65, [], rfl, rfl, by exact rfl, by exact hn, by show hexRaw n = hexRaw n ++ []; simp, ?_, Below.alloc (Below.refl _ _) (Nat.le_refl _) _⟩
    have hz : Tryd.zeroCells113 = Array.replicate 65 (.int .u8 0) := by rfl
    have hnew := heap_alloc_new w (Obj.cells Tryd.zeroCells113 113)
    rw [hz] at hnew ⊢
    refine ⟨fun j hj => ⟨0, ?_, ?_⟩, fun k hk => absurd hk (Nat.not_lt_zero _)⟩
    · unfold World.cell?
      rw [hnew]
      simp [hj]
    · unfold World.frozen?
      rw [hnew]
      rfl
  case round =>
    obtain ⟨a, d, tl, rfl, rfl, hd, han, htl, hD, hb⟩ := hrel
    have hlen : tl.length + (hexRaw a).length ≤ 8 := by
      have h1 := HLEN.out
      rw [htl.out, List.length_append] at h1
      omega
    have hpos := hexRaw_pos a
    have hle : tl.length ≤ 7 := by omega
    have hdv : d.toNat - 1 = 64 - tl.length := by have := hd.out; omega
    have b3 : (0 : Int) ≤ d - 1 := by have := hd.out; omega
    have b4 : d - 1 < 65 := by have := hd.out; omega
    obtain ⟨y, hy, hf⟩ := hD.out.1 (64 - tl.length) (by omega)
    rw [← hdv] at hy hf
    have HDV := Lib.hid hdv
    clear hdv
    by_cases h16 : a < 16
    · have b1 : ¬ (16 : Int) ≤ (a : Int) := by omega
      have b5 : (a : Int) < 36 := by omega
      have b6 : (0 : Int) ≤ (a : Int) := by omega
      go_upto_region 30 with (fail)
      rw [digit36 a (by omega)]
      have hD2 := DigAt.set hD.out (hexD a) (by omega)
      rw [← HDV.out] at hD2
      have hb2 : Below w.heap.size w (wr.setCell ⟨w.heap.size, d.toNat - 1, none⟩ (.int .u8 ((hexD a).toNat : Int))) := Below.setCell hb (Nat.le_refl _) _
      obtain ⟨W, hW⟩ : ∃ W, W = wr.setCell ⟨w.heap.size, d.toNat - 1, none⟩ (.int .u8 ((hexD a).toNat : Int)) := ⟨_, rfl⟩
      rw [← hW] at hD2 hb2 ⊢
      obtain ⟨m, hm⟩ : ∃ m : Nat, d - 1 = (m : Int) := ⟨(d - 1).toNat, by omega⟩
      rw [hm]
      have hmt : 65 - m = (codes (hexD a :: tl)).length ∧ m ≤ 64 := by have := hd.out; rw [codes_len, List.length_cons]; omega
      have hcv := run_convert_bytes_arg (P := Tryd.prog) W 76 5 Tryd.underlying76 Tryd.underlying5 w.heap.size m (65 - m) (65 - m) (codes (hexD a :: tl)) hmt.1.symm (by
        intro i hi
        have h := hD2.2 i (by have := hmt.1; rw [codes_len] at this; omega)
        have e1 : 65 - (hexD a :: tl).length = m := by have := hmt.1; rw [codes_len] at this; have := hmt.2; omega
        rw [e1] at h
        rw [h]
        have hi2 : i < (hexD a :: tl).length := by have := hmt.1; rw [codes_len] at this; omega
        rw [codes_getD _ _ hi2]) 9 Tryd.underlying9
      have b7 : m ≤ 65 := by omega
      have b8 : (m : Int) ≤ 65 := by omega
      have b9 : (0 : Int) ≤ (m : Int) := by omega
      have b10 : ¬ 65 = m := by omega
      have HR : Hid (hexRaw n = hexD a :: tl) := by have h := htl.out; rw [hexRaw_small h16] at h; exact h
      clear hW hmt hm hD2 hd hD htl HDV hy hf b3 b4 b5 b6 han
      go_wp2_with fail
      go_ret2
      exact ⟨by rw [HR.out, ← strOfNums_codes]; rfl, hb2⟩
    · have b1 : (16 : Int) ≤ (a : Int) := by omega
      obtain ⟨e, he⟩ : ∃ e : Nat, e = a % 16 := ⟨_, rfl⟩
      have he16 : e < 16 := by omega
      have ha : a < 18446744073709551616 := by have := han.out; omega
      have hbits : bits .and .u64 (a : Int) 15 = (e : Int) := by
        rw [show (15 : Int) = ((15 : Nat) : Int) from rfl, u64_and_nat _ _ ha (by omega), he]
        congr 1
        exact Nat.and_two_pow_sub_one_eq_mod _ 4
      have b5 : (e : Int) < 36 := by omega
      have b6 : (0 : Int) ≤ (e : Int) := by omega
      have HE := Lib.hid he
      clear he
      go_wp2_with fail
      go_roundw
      case rel =>
        refine ⟨a / 16, d - 1, hexD e :: tl, by simp, rfl, by have := hd.out; show d - 1 = 65 - ((tl.length + 1 : Nat) : Int); omega, by have := han.out; show a / 16 < 4294967296; omega, ?_, ?_, Below.setCell hb (Nat.le_refl _) _⟩
        · have h := htl.out
          rw [hexRaw_big h16, ← HE.out, List.append_assoc] at h
          exact h
        · rw [digit36 e (by omega), HDV.out]
          exact DigAt.set hD.out (hexD e) (by omega)
      case measure => simp [intOf]; omega

theorem hex_next {a b c : World} (h : Below a.heap.size a b) (k : Below b.heap.size b c) : Below a.heap.size a c := h.trans (k.mono h.size)

theorem FormatInt16 (n : Nat) (hn : n < 4294967296) (w : World) (hz : TabZ w) :
    Calls Tryd.prog 43 #[.int .i64 (n : Int), .int .i64 16] w fun e w' => e = .returned (.string ⟨(hexRaw n).toArray⟩) ∧ Below w.heap.size w w' := by
  have HF : Hid (∀ w : World, TabZ w → Calls Tryd.prog 73 #[.slice none 0 0, .int .u64 (n : Int), .int .i64 16, .bool false, .bool false] w fun e w' => e = .returned (.tuple #[.slice none 0 0, .string ⟨(hexRaw n).toArray⟩]) ∧ Below w.heap.size w w') := formatBits16 n hn
  have b1 : (n : Int) < 18446744073709551616 := by omega
  have b2 : ¬ (n : Int) < 0 := by omega
  have HZ : Hid (TabZ w) := hz
  clear hz
  have hi : Calls Tryd.prog 57 #[.int .i64 (n : Int), .int .i64 16] w fun e w' => e = .returned (.string ⟨(hexRaw n).toArray⟩) ∧ Below w.heap.size w w' := by
    go_enter Tryd.func57, Tryd.ntmps57
    go_wp2_with (first | (go_at_call 73; refine (HF.out _ HZ.out).mono ?_; rintro e w1 ⟨rfl, hb1⟩) | fail)
    go_ret
    exact ⟨rfl, hb1⟩
  have HI := Lib.hid hi
  clear hi
  go_enter Tryd.func43, Tryd.ntmps43
  go_wp2_with (first | (go_at_call 57; refine HI.out.mono ?_; rintro e w1 ⟨rfl, hb1⟩) | fail)
  go_ret
  exact ⟨rfl, hb1⟩

theorem repeatL_zero (k : Nat) : Lib.repeatL [48] k = List.replicate k 48 := by
  induction k with
  | zero => rfl
  | succ k ih => rw [List.replicate_succ, ← ih]; rfl

theorem impl_hexOf (x : Nat) (hx : x < 4294967296) (w : World) (hz : TabZ w) : Calls Tryd.prog 31 #[.float .f32 x] w fun e w' => e = .returned (.string (hexS (bitsV (val .f32 x)).toNat)) ∧ Below w.heap.size w w' := by
  obtain ⟨h0, h1⟩ := bitsV_range hx
  obtain ⟨n, hn⟩ : ∃ n : Nat, bitsV (val .f32 x) = (n : Int) := ⟨(bitsV (val .f32 x)).toNat, by omega⟩
  rw [hn] at h0 h1 ⊢
  have hn' : n < 4294967296 := by omega
  have hb := impl_BitsOf x hx
  rw [hn] at hb
  have HB : Hid (∀ w, Calls Tryd.prog 44 #[.float .f32 x] w fun e w' => e = .returned (.int .i64 (n : Int)) ∧ w' = w) := hb
  have HF : Hid (∀ w : World, TabZ w → Calls Tryd.prog 43 #[.int .i64 (n : Int), .int .i64 16] w fun e w' => e = .returned (.string ⟨(hexRaw n).toArray⟩) ∧ Below w.heap.size w w') := FormatInt16 n hn'
  have HZ : Hid (TabZ w) := hz
  rw [Int.toNat_natCast]
  obtain ⟨p1, p2⟩ := hexS_pad n hn'
  obtain ⟨r, hr⟩ : ∃ r, r = hexRaw n := ⟨_, rfl⟩
  rw [← hr] at HF p1 p2
  have HP : Hid (List.replicate (8 - r.length) 48 ++ r = hexFix 8 n) := p2
  obtain ⟨c, hc⟩ : ∃ c : Nat, c = 8 - r.length := ⟨_, rfl⟩
  have hc1 : (8 : Int) - (r.length : Int) = (c : Int) := by omega
  have hsz : (⟨r.toArray⟩ : ByteArray).size = r.length := by show r.toArray.size = _; simp
  have hlen : c ≤ 8 := by omega
  have hrl : r.length ≤ 8 := p1
  have hsz2 : (⟨(Lib.repeatL [48] c).toArray⟩ : ByteArray).size = c := by show (Lib.repeatL [48] c).toArray.size = _; rw [repeatL_zero]; simp
  have hcat : (c : Int) + (r.length : Int) ≤ 16 := by omega
  have hcat2 : c + r.length ≤ 16 := by omega
  rw [← hc] at HP
  clear hb hn h0 h1 hx hz p2 hr hc p1 hn'
  go_enter Tryd.func31, Tryd.ntmps31
  go_wp2_with (first | (go_at_call 44; refine (HB.out _).mono ?_; rintro e w' ⟨rfl, hw⟩; obtain rfl := hw.symm) | (go_at_call 43; refine (HF.out _ HZ.out).mono ?_; rintro e w1 ⟨rfl, hb1⟩) | (go_at_call 45; refine (Tryd.strings_Repeat ⟨#[48]⟩ c _ (by omega) (by show 1 * c ≤ _; omega)).mono ?_; rintro e w2 ⟨rfl, hb2⟩) | fail)
  go_ret
  refine ⟨?_, hex_next hb1 hb2⟩
  show Ending.returned (Value.string (⟨(Lib.repeatL [48] c).toArray⟩ ++ ⟨r.toArray⟩)) = _
  congr 2
  apply ByteArray.ext
  rw [ByteArray.data_append]
  show (Lib.repeatL [48] c).toArray ++ r.toArray = (hexFix 8 n).toArray
  rw [← HP.out, repeatL_zero]
  simp
end Go.Proofs.YtjfoimbeflobkabDoor
