/-
  The proof's texts, one behind the other: XThexL XTjoin XOpen XIn XA4 XC1 XE1 XTnum XTdec XTread XTeqI.
-/
import Derived.Test.YtjfoimbeflobkabDoorMLExactReadNumbersa
import Derived.Test.YtjfoimbeflobkabDoorWWords
import Derived.OwnWalk
import Derived.Laws.OwnMore
import Derived.Deep.AppendLies
import Derived.Lib.ConvBytes
import Derived.Lib.Hide
import Derived.Test.YtjfoimbeflobkabDoorShelfRepeat
import Derived.Lib.TrailingZeros
import Derived.Test.YtjfoimbeflobkabDoorProg
import Derived.Test.YtjfoimbeflobkabDoorShelfJoin
import Derived.Lib.Join
import Derived.Laws.Cover2
import Derived.ProofKit
import Derived.WalkKit
import Derived.OpenShut
import Derived.Lib.SmallJoins
import Derived.Deep.Draws
import Derived.Outline
import Derived.Below
import Derived.Deep.RegionHeld3
import Derived.Handy
import Derived.Laws.Alloc2
import Derived.Laws.NewBlocks
import Derived.Deep.WholeRow
import Derived.Deep.Slices
import Derived.Laws.LoneSync
import Derived.Test.YtjfoimbeflobkabDoorPl01Valuex1
import Derived.Lib.ItoaNum
import Derived.Lib.LazyBuf
import Derived.Lib.ParseIntB
import Derived.Test.YtjfoimbeflobkabDoorPeqInt64Sx1
namespace Go.Proofs.YtjfoimbeflobkabDoor
open Fl Go.RowKit Go.Proofs.YtjfoimbeflobkabDoorW.PrintWords
set_option linter.unusedVariables false

theorem bitsV_range {x : Nat} (hx : x < 4294967296) : 0 ≤ bitsV (val .f32 x) ∧ bitsV (val .f32 x) < 4294967296 := by
  cases h : val .f32 x with
  | none => decide
  | some b =>
    have h2 : b < 2 ^ FloatKind.f32.format.width := val_lt h hx
    have h3 : 2 ^ FloatKind.f32.format.width = 4294967296 := by decide
    have h4 : bitsV (some b) = (b : Int) := rfl
    rw [h4]
    omega

def codes (l : List UInt8) : List Int := l.map fun c => (c.toNat : Int)
theorem codes_len (l : List UInt8) : (codes l).length = l.length := by simp [codes]

theorem strOfNums_codes (l : List UInt8) : strOfNums (codes l) = ⟨l.toArray⟩ := by
  unfold strOfNums codes
  rw [List.map_map]
  congr 2
  conv => rhs; rw [← List.map_id l]
  apply List.map_congr_left
  intro c _
  show UInt8.ofNat ((c.toNat : Int)).toNat = c
  rw [Int.toNat_natCast]
  exact UInt8.ofNat_toNat

theorem codes_getD (l : List UInt8) (i : Nat) (h : i < l.length) : (codes l).getD i 0 = ((l[i]).toNat : Int) := by
  unfold codes
  rw [List.getD_eq_getElem?_getD, List.getElem?_map, List.getElem?_eq_getElem h]
  rfl

theorem codes_snoc (l : List UInt8) (c : UInt8) : codes (l ++ [c]) = codes l ++ [(c.toNat : Int)] := by simp [codes]

theorem digit16 (e : Nat) (h : e < (⟨#[48, 49, 50, 51, 52, 53, 54, 55, 56, 57, 97, 98, 99, 100, 101, 102]⟩ : ByteArray).size) : (⟨#[48, 49, 50, 51, 52, 53, 54, 55, 56, 57, 97, 98, 99, 100, 101, 102]⟩ : ByteArray)[e] = hexD e := by
  have k : ∀ e : Fin 16, (⟨#[48, 49, 50, 51, 52, 53, 54, 55, 56, 57, 97, 98, 99, 100, 101, 102]⟩ : ByteArray)[e.val]'(e.isLt) = hexD e.val := by decide
  exact k ⟨e, h⟩

theorem digit36 (e : Nat) (h : e < 16) (h' : e < (⟨#[48, 49, 50, 51, 52, 53, 54, 55, 56, 57, 97, 98, 99, 100, 101, 102, 103, 104, 105, 106, 107, 108, 109, 110, 111, 112, 113, 114, 115, 116, 117, 118, 119, 120, 121, 122]⟩ : ByteArray).size) : (⟨#[48, 49, 50, 51, 52, 53, 54, 55, 56, 57, 97, 98, 99, 100, 101, 102, 103, 104, 105, 106, 107, 108, 109, 110, 111, 112, 113, 114, 115, 116, 117, 118, 119, 120, 121, 122]⟩ : ByteArray)[e] = hexD e := by
  have k : ∀ e : Fin 16, (⟨#[48, 49, 50, 51, 52, 53, 54, 55, 56, 57, 97, 98, 99, 100, 101, 102, 103, 104, 105, 106, 107, 108, 109, 110, 111, 112, 113, 114, 115, 116, 117, 118, 119, 120, 121, 122]⟩ : ByteArray)[e.val]'(Nat.lt_of_lt_of_le e.isLt (by decide)) = hexD e.val := by decide
  exact k ⟨e, h⟩

theorem spec_l01Hex (x : Nat) (hx : x < 4294967296) (w : World) : Calls Tryd.prog 42 #[.float .f32 x] w fun e w' => e = .returned (.string (hexS (bitsV (val .f32 x)).toNat)) ∧ Below w.heap.size w w' := by
  obtain ⟨h0, h1⟩ := bitsV_range hx
  obtain ⟨n, hn⟩ : ∃ n : Nat, bitsV (val .f32 x) = (n : Int) := ⟨(bitsV (val .f32 x)).toNat, by omega⟩
  rw [hn] at h0 h1 ⊢
  have hn' : n < 4294967296 := by omega
  have hb := spec_l01Bits x hx
  rw [hn] at hb
  have HB : Hid (∀ w, Calls Tryd.prog 48 #[.float .f32 x] w fun e w' => e = .returned (.int .i64 (n : Int)) ∧ w' = w) := hb
  rw [Int.toNat_natCast]
  clear hb hn h0 h1 hx
  go_enter Tryd.func42, Tryd.ntmps42
  go_wp2_with (first | (go_at_call 48; refine (HB.out _).mono ?_; rintro e w' ⟨rfl, hw⟩; obtain rfl := hw.symm) | fail)
  go_loopw [4, 5] (fun t i wr => ∃ (j : Nat) (d : Int), j ≤ 8 ∧ i = .int .i64 d ∧ Hid (d = 28 - 4 * (j : Int)) ∧ Hid (wr.ownsRow w.heap.size 5 1 t (codes (hexFix j (n / 2 ^ (32 - 4 * j)))).length (nums .u8 (codes (hexFix j (n / 2 ^ (32 - 4 * j)))))) ∧ Below w.heap.size w wr) (fun _ i _ => (intOf i + 4).toNat)
  case atStart => exact ⟨0, 28, by omega, rfl, by exact rfl, by exact World.ownsRow_made _ _ _ (Nat.le_refl _) (by decide) (by simp), Below.alloc (Below.refl _ _) (Nat.le_refl _) _⟩
  case round =>
    obtain ⟨j, d, hj, rfl, hd, hown, hb⟩ := hrel
    by_cases hlt : j < 8
    · have b1 : (0 : Int) ≤ d := by have := hd.out; omega
      have b2 : d ≤ 28 := by have := hd.out; omega
      have hdn : d.toNat = 28 - 4 * j := by have := hd.out; omega
      obtain ⟨e, he⟩ : ∃ e : Nat, e = n / 2 ^ (28 - 4 * j) % 16 := ⟨_, rfl⟩
      have he16 : e < 16 := by omega
      have hbits : bits .and .i64 ((n : Int) / 2 ^ d.toNat) 15 = (e : Int) := by
        have e1 : (n : Int) / 2 ^ d.toNat = ((n / 2 ^ (28 - 4 * j) : Nat) : Int) := by rw [hdn]; simp
        have e2 : n / 2 ^ (28 - 4 * j) ≤ n := Nat.div_le_self _ _
        rw [e1, show (15 : Int) = ((15 : Nat) : Int) from rfl, i64_and_nat _ _ (by omega) (by omega), he]
        congr 1
        exact Nat.and_two_pow_sub_one_eq_mod _ 4
      have hlen : (codes (hexFix j (n / 2 ^ (32 - 4 * j)))).length ≤ 8 := by rw [codes_len, hexFix_len]; omega
      have hnext : hexFix (j + 1) (n / 2 ^ (32 - 4 * (j + 1))) = hexFix j (n / 2 ^ (32 - 4 * j)) ++ [hexD e] := by
        have e3 : 32 - 4 * (j + 1) = 28 - 4 * j := by omega
        have e4 : n / 2 ^ (28 - 4 * j) / 16 = n / 2 ^ (32 - 4 * j) := by
          rw [Nat.div_div_eq_div_mul, show (16 : Nat) = 2 ^ 4 from rfl, ← Nat.pow_add, show 28 - 4 * j + 4 = 32 - 4 * j by omega]
        rw [e3, hexFix, e4, he]
      have HNX := Lib.hid hnext
      have HDN := Lib.hid hdn
      clear hdn he hnext
      clear hj
      have hlt8 := Lib.hid hlt
      clear hlt
      go_wp2_with (first | (at_builtin; go_loud (refine print_append_num (w0 := w) w.heap.size rfl (.tmp 13) (.tmp 20) 76 5 .u8 1 rfl Tryd.underlying76 (by kernel_rfl) (by decide) u4 _ _ rfl rfl (Hid.out hown) hb hb.size (by omega) ?_); intro v3 w3 hown3 K3 hg3 hat3) | fail)
      rw [digit16, ← codes_snoc, ← HNX.out] at hown3
      have HO3 := Lib.hid hown3
      clear hown3 hg3 hat3
      go_roundw
      case rel => exact ⟨j + 1, d - 4, by have := hlt8.out; omega, by simp, by have := hd.out; show d - 4 = 28 - 4 * ((j + 1 : Nat) : Int); omega, by exact HO3.out, K3⟩
      case measure => simp [intOf]; omega
    · obtain rfl : j = 8 := by omega
      have b1 : d = -4 := by have := hd.out; omega
      subst b1
      have hcv := own_string (P := Tryd.prog) Tryd.underlying76 Tryd.underlying5 Tryd.underlying9 hown.out
      clear hlt hj
      go_wp2_with fail
      go_ret
      exact ⟨by show Ending.returned (Value.string (strOfNums (codes (hexFix 8 n)))) = _; rw [strOfNums_codes]; rfl, hb⟩

/-! ### The program's side -/

/-- The library's table of trailing noughts. -/
def db64Name : String := match Rows.fnExactReadListRow.laid with | _ :: x :: _ => x.1 | _ => default
def zTab : List Int := Lib.deBruijn64tab.map fun n : Nat => (n : Int)
def TabZ (w : World) : Prop := Lib.TabIs Tryd.prog w db64Name .u8 zTab
theorem gTabZ : Tryd.prog.globalNamed db64Name = some 6 := by kernel_rfl
theorem TabZ.below {w w' : World} (h : TabZ w) (hb : Below w.heap.size w w') : TabZ w' := by
  have hc := Lib.TabIs.cell h gTabZ 0 (by decide)
  exact var?_below hb gTabZ (World.block_lt_of_cell? _ _ hc) h
theorem TabZ.of {w : World} {a : String × DataW Unit} {r : List (String × DataW Unit)} (h : laidMet Tryd.prog (a :: (db64Name, Lib.tabData .u8 zTab) :: r) w) : TabZ w :=
  Lib.tabIs_of_head gTabZ (t := 132) (e := 5) (n := 64) (by kernel_rfl) (by kernel_rfl) (by kernel_rfl) (by kernel_rfl) (by kernel_rfl) (laidMet.tail h)

theorem isPower16 (w : World) : Calls Tryd.prog 91 #[.int .i64 16] w fun e w' => e = .returned (.bool true) ∧ w = w' := by
  go_enter Tryd.func91, Tryd.ntmps91
  go_wp2_with fail
  go_ret
  exact ⟨rfl, rfl⟩

theorem trailing16 (w : World) (hz : TabZ w) : Calls Tryd.prog 92 #[.int .u64 16] w fun e w' => e = .returned (.int .i64 4) ∧ w = w' := by
  have hc : w.cell? ⟨6, 15, none⟩ = some (.int .u8 4) := Lib.TabIs.cell hz gTabZ 15 (by decide)
  have hi : IntKind.u64.wrap (bits .and .u64 16 (IntKind.u64.wrap (-16)) * 285870213051353865) / 288230376151711744 = 15 := by decide
  have h1 : Calls Tryd.prog 103 #[.int .u64 16] w fun e w' => e = .returned (.int .i64 4) ∧ w = w' := by
    go_enter Tryd.func103, Tryd.ntmps103
    go_wp2_with fail
    go_ret
    exact ⟨rfl, rfl⟩
  go_enter Tryd.func92, Tryd.ntmps92
  go_wp2_with (first | (go_at_call 103; refine h1.mono ?_; rintro e w' ⟨rfl, rfl⟩) | fail)
  go_ret
  exact ⟨rfl, rfl⟩

/-- What the array of digits holds. -/
def DigAt (w : World) (g : Nat) (tl : List UInt8) : Prop :=
  (∀ j, j < 65 → ∃ y : Int, w.cell? ⟨g, j, none⟩ = some (.int .u8 y) ∧ w.frozen? ⟨g, j, none⟩ = false) ∧ ∀ k (h : k < tl.length), w.cell? ⟨g, 65 - tl.length + k, none⟩ = some (.int .u8 (tl[k].toNat : Int))

theorem DigAt.set {w : World} {g : Nat} {tl : List UInt8} (h : DigAt w g tl) (c : UInt8) (hl : tl.length < 65) : DigAt (w.setCell ⟨g, 64 - tl.length, none⟩ (.int .u8 (c.toNat : Int))) g (c :: tl) := by
  obtain ⟨h1, h2⟩ := h
  obtain ⟨y0, hy0, _⟩ := h1 (64 - tl.length) (by omega)
  have hs := World.cell?_setCell_same w ⟨g, 64 - tl.length, none⟩ (.int .u8 (c.toNat : Int)) hy0
  have ho : ∀ j, j ≠ 64 - tl.length → (w.setCell ⟨g, 64 - tl.length, none⟩ (.int .u8 (c.toNat : Int))).cell? ⟨g, j, none⟩ = w.cell? ⟨g, j, none⟩ := fun j hj => World.cell?_setCell_other _ _ _ _ (by first | (simp; done) | (simp; omega))
  refine ⟨fun j hj => ?_, fun k hk => ?_⟩
  · obtain ⟨y, hy, hz⟩ := h1 j hj
    by_cases e : j = 64 - tl.length
    · subst e; exact ⟨_, hs, by simpa [go_sem] using hz⟩
    · exact ⟨y, (ho j e).trans hy, by simpa [go_sem] using hz⟩
  · simp only [List.length_cons] at hk ⊢
    cases k with
    | zero => rw [show 65 - (tl.length + 1) + 0 = 64 - tl.length by omega]; exact hs
    | succ k =>
      rw [show 65 - (tl.length + 1) + (k + 1) = 65 - tl.length + k by omega, ho _ (by omega)]
      exact h2 k (by omega)

set_option maxRecDepth 6000 in
theorem formatBits16 (n : Nat) (hn : n < 4294967296) (w : World) (hz : TabZ w) :
    Calls Tryd.prog 73 #[.slice none 0 0, .int .u64 (n : Int), .int .i64 16, .bool false, .bool false] w fun e w' => e = .returned (.tuple #[.slice none 0 0, .string ⟨(hexRaw n).toArray⟩]) ∧ Below w.heap.size w w' := by
  have HZ : Hid (TabZ w) := hz
  have HLEN : Hid ((hexRaw n).length ≤ 8) := (hexS_pad n hn).1
  clear hz
  go_enter Tryd.func73, Tryd.ntmps73
  go_wp2_with (first | (go_at_call 91; refine (isPower16 _).mono ?_; rintro e w' ⟨rfl, rfl⟩) | (go_at_call 92; refine (trailing16 _ (HZ.out.below (Below.alloc (Below.refl _ _) (Nat.le_refl _) _))).mono ?_; rintro e w' ⟨rfl, rfl⟩) | fail)
  go_loopw [1, 13] (fun u i wr => ∃ (a : Nat) (d : Int) (tl : List UInt8), u = .int .u64 (a : Int) ∧ i = .int .i64 d ∧ Hid (d = 65 - (tl.length : Int)) ∧ Hid (a < 4294967296) ∧ Hid (hexRaw n = hexRaw a ++ tl) ∧ Hid (DigAt wr w.heap.size tl) ∧ Below w.heap.size w wr) (fun u _ _ => (intOf u).toNat)
  case atStart =>
    refine ⟨n, 65, [], rfl, rfl, by exact rfl, by exact hn, by show hexRaw n = hexRaw n ++ []; simp, ?_, Below.alloc (Below.refl _ _) (Nat.le_refl _) _⟩
    have hz : Tryd.zeroCells113 = Array.replicate 65 (.int .u8 0) := by rfl
    have hnew := heap_alloc_new w (Obj.cells Tryd.zeroCells113 113)
    rw [hz] at hnew ⊢
    refine ⟨fun j hj => ⟨0, ?_, ?_⟩, fun k hk => absurd hk (Nat.not_lt_zero _)⟩
    · unfold World.cell?
      rw [hnew]
      simp [hj]
    · unfold World.frozen?
      rw [hnew]
      rfl
  case round =>
    obtain ⟨a, d, tl, rfl, rfl, hd, han, htl, hD, hb⟩ := hrel
    have hlen : tl.length + (hexRaw a).length ≤ 8 := by
      have h1 := HLEN.out
      rw [htl.out, List.length_append] at h1
      omega
    have hpos := hexRaw_pos a
    have hle : tl.length ≤ 7 := by omega
    have hdv : d.toNat - 1 = 64 - tl.length := by have := hd.out; omega
    have b3 : (0 : Int) ≤ d - 1 := by have := hd.out; omega
    have b4 : d - 1 < 65 := by have := hd.out; omega
    obtain ⟨y, hy, hf⟩ := hD.out.1 (64 - tl.length) (by omega)
    rw [← hdv] at hy hf
    have HDV := Lib.hid hdv
    clear hdv
    by_cases h16 : a < 16
    · have b1 : ¬ (16 : Int) ≤ (a : Int) := by omega
      have b5 : (a : Int) < 36 := by omega
      have b6 : (0 : Int) ≤ (a : Int) := by omega
      go_upto_region 30 with (fail)
      rw [digit36 a (by omega)]
      have hD2 := DigAt.set hD.out (hexD a) (by omega)
      rw [← HDV.out] at hD2
      have hb2 : Below w.heap.size w (wr.setCell ⟨w.heap.size, d.toNat - 1, none⟩ (.int .u8 ((hexD a).toNat : Int))) := Below.setCell hb (Nat.le_refl _) _
      obtain ⟨W, hW⟩ : ∃ W, W = wr.setCell ⟨w.heap.size, d.toNat - 1, none⟩ (.int .u8 ((hexD a).toNat : Int)) := ⟨_, rfl⟩
      rw [← hW] at hD2 hb2 ⊢
      obtain ⟨m, hm⟩ : ∃ m : Nat, d - 1 = (m : Int) := ⟨(d - 1).toNat, by omega⟩
      rw [hm]
      have hmt : 65 - m = (codes (hexD a :: tl)).length ∧ m ≤ 64 := by have := hd.out; rw [codes_len, List.length_cons]; omega
      have hcv := run_convert_bytes_arg (P := Tryd.prog) W 76 5 Tryd.underlying76 Tryd.underlying5 w.heap.size m (65 - m) (65 - m) (codes (hexD a :: tl)) hmt.1.symm (by
        intro i hi
        have h := hD2.2 i (by have := hmt.1; rw [codes_len] at this; omega)
        have e1 : 65 - (hexD a :: tl).length = m := by have := hmt.1; rw [codes_len] at this; have := hmt.2; omega
        rw [e1] at h
        rw [h]
        have hi2 : i < (hexD a :: tl).length := by have := hmt.1; rw [codes_len] at this; omega
        rw [codes_getD _ _ hi2]) 9 Tryd.underlying9
      have b7 : m ≤ 65 := by omega
      have b8 : (m : Int) ≤ 65 := by omega
      have b9 : (0 : Int) ≤ (m : Int) := by omega
      have b10 : ¬ 65 = m := by omega
      have HR : Hid (hexRaw n = hexD a :: tl) := by have h := htl.out; rw [hexRaw_small h16] at h; exact h
      clear hW hmt hm hD2 hd hD htl HDV hy hf b3 b4 b5 b6 han
      go_wp2_with fail
      go_ret2
      exact ⟨by rw [HR.out, ← strOfNums_codes]; rfl, hb2⟩
    · have b1 : (16 : Int) ≤ (a : Int) := by omega
      obtain ⟨e, he⟩ : ∃ e : Nat, e = a % 16 := ⟨_, rfl⟩
      have he16 : e < 16 := by omega
      have ha : a < 18446744073709551616 := by have := han.out; omega
      have hbits : bits .and .u64 (a : Int) 15 = (e : Int) := by
        rw [show (15 : Int) = ((15 : Nat) : Int) from rfl, u64_and_nat _ _ ha (by omega), he]
        congr 1
        exact Nat.and_two_pow_sub_one_eq_mod _ 4
      have b5 : (e : Int) < 36 := by omega
      have b6 : (0 : Int) ≤ (e : Int) := by omega
      have HE := Lib.hid he
      clear he
      go_wp2_with fail
      go_roundw
      case rel =>
        refine ⟨a / 16, d - 1, hexD e :: tl, by simp, rfl, by have := hd.out; show d - 1 = 65 - ((tl.length + 1 : Nat) : Int); omega, by have := han.out; show a / 16 < 4294967296; omega, ?_, ?_, Below.setCell hb (Nat.le_refl _) _⟩
        · have h := htl.out
          rw [hexRaw_big h16, ← HE.out, List.append_assoc] at h
          exact h
        · rw [digit36 e (by omega), HDV.out]
          exact DigAt.set hD.out (hexD e) (by omega)
      case measure => simp [intOf]; omega

theorem hex_next {a b c : World} (h : Below a.heap.size a b) (k : Below b.heap.size b c) : Below a.heap.size a c := h.trans (k.mono h.size)

theorem FormatInt16 (n : Nat) (hn : n < 4294967296) (w : World) (hz : TabZ w) :
    Calls Tryd.prog 43 #[.int .i64 (n : Int), .int .i64 16] w fun e w' => e = .returned (.string ⟨(hexRaw n).toArray⟩) ∧ Below w.heap.size w w' := by
  have HF : Hid (∀ w : World, TabZ w → Calls Tryd.prog 73 #[.slice none 0 0, .int .u64 (n : Int), .int .i64 16, .bool false, .bool false] w fun e w' => e = .returned (.tuple #[.slice none 0 0, .string ⟨(hexRaw n).toArray⟩]) ∧ Below w.heap.size w w') := formatBits16 n hn
  have b1 : (n : Int) < 18446744073709551616 := by omega
  have b2 : ¬ (n : Int) < 0 := by omega
  have HZ : Hid (TabZ w) := hz
  clear hz
  have hi : Calls Tryd.prog 57 #[.int .i64 (n : Int), .int .i64 16] w fun e w' => e = .returned (.string ⟨(hexRaw n).toArray⟩) ∧ Below w.heap.size w w' := by
    go_enter Tryd.func57, Tryd.ntmps57
    go_wp2_with (first | (go_at_call 73; refine (HF.out _ HZ.out).mono ?_; rintro e w1 ⟨rfl, hb1⟩) | fail)
    go_ret
    exact ⟨rfl, hb1⟩
  have HI := Lib.hid hi
  clear hi
  go_enter Tryd.func43, Tryd.ntmps43
  go_wp2_with (first | (go_at_call 57; refine HI.out.mono ?_; rintro e w1 ⟨rfl, hb1⟩) | fail)
  go_ret
  exact ⟨rfl, hb1⟩

theorem repeatL_zero (k : Nat) : Lib.repeatL [48] k = List.replicate k 48 := by
  induction k with
  | zero => rfl
  | succ k ih => rw [List.replicate_succ, ← ih]; rfl

theorem impl_hexOf (x : Nat) (hx : x < 4294967296) (w : World) (hz : TabZ w) : Calls Tryd.prog 31 #[.float .f32 x] w fun e w' => e = .returned (.string (hexS (bitsV (val .f32 x)).toNat)) ∧ Below w.heap.size w w' := by
  obtain ⟨h0, h1⟩ := bitsV_range hx
  obtain ⟨n, hn⟩ : ∃ n : Nat, bitsV (val .f32 x) = (n : Int) := ⟨(bitsV (val .f32 x)).toNat, by omega⟩
  rw [hn] at h0 h1 ⊢
  have hn' : n < 4294967296 := by omega
  have hb := impl_BitsOf x hx
  rw [hn] at hb
  have HB : Hid (∀ w, Calls Tryd.prog 44 #[.float .f32 x] w fun e w' => e = .returned (.int .i64 (n : Int)) ∧ w' = w) := hb
  have HF : Hid (∀ w : World, TabZ w → Calls Tryd.prog 43 #[.int .i64 (n : Int), .int .i64 16] w fun e w' => e = .returned (.string ⟨(hexRaw n).toArray⟩) ∧ Below w.heap.size w w') := FormatInt16 n hn'
  have HZ : Hid (TabZ w) := hz
  rw [Int.toNat_natCast]
  obtain ⟨p1, p2⟩ := hexS_pad n hn'
  obtain ⟨r, hr⟩ : ∃ r, r = hexRaw n := ⟨_, rfl⟩
  rw [← hr] at HF p1 p2
  have HP : Hid (List.replicate (8 - r.length) 48 ++ r = hexFix 8 n) := p2
  obtain ⟨c, hc⟩ : ∃ c : Nat, c = 8 - r.length := ⟨_, rfl⟩
  have hc1 : (8 : Int) - (r.length : Int) = (c : Int) := by omega
  have hsz : (⟨r.toArray⟩ : ByteArray).size = r.length := by show r.toArray.size = _; simp
  have hlen : c ≤ 8 := by omega
  have hrl : r.length ≤ 8 := p1
  have hsz2 : (⟨(Lib.repeatL [48] c).toArray⟩ : ByteArray).size = c := by show (Lib.repeatL [48] c).toArray.size = _; rw [repeatL_zero]; simp
  have hcat : (c : Int) + (r.length : Int) ≤ 16 := by omega
  have hcat2 : c + r.length ≤ 16 := by omega
  rw [← hc] at HP
  clear hb hn h0 h1 hx hz p2 hr hc p1 hn'
  go_enter Tryd.func31, Tryd.ntmps31
  go_wp2_with (first | (go_at_call 44; refine (HB.out _).mono ?_; rintro e w' ⟨rfl, hw⟩; obtain rfl := hw.symm) | (go_at_call 43; refine (HF.out _ HZ.out).mono ?_; rintro e w1 ⟨rfl, hb1⟩) | (go_at_call 45; refine (Tryd.strings_Repeat ⟨#[48]⟩ c _ (by omega) (by show 1 * c ≤ _; omega)).mono ?_; rintro e w2 ⟨rfl, hb2⟩) | fail)
  go_ret
  refine ⟨?_, hex_next hb1 hb2⟩
  show Ending.returned (Value.string (⟨(Lib.repeatL [48] c).toArray⟩ ++ ⟨r.toArray⟩)) = _
  congr 2
  apply ByteArray.ext
  rw [ByteArray.data_append]
  show (Lib.repeatL [48] c).toArray ++ r.toArray = (hexFix 8 n).toArray
  rw [← HP.out, repeatL_zero]
  simp
end Go.Proofs.YtjfoimbeflobkabDoor
namespace Go.Proofs.YtjfoimbeflobkabDoor
open Go.RowKit Go.Proofs.YtjfoimbeflobkabDoorW.PrintWords
set_option linter.unusedVariables false

/-- Texts with commas between them. -/
def joinS (xs : List ByteArray) : ByteArray := if xs = [] then ⟨#[110, 111, 110, 101]⟩ else ⟨(Lib.join (xs.map (·.data.toList)) [44]).toArray⟩

theorem impl_joined (base : Nat) (v : Value) (xs : List ByteArray) (w : World) (h : w.ownsRow base 9 1 v xs.length (xs.map Value.string)) (hlen : (Lib.join (xs.map (·.data.toList)) [44]).length ≤ 1000000) (hn : xs.length ≤ 1000000) :
    Calls Tryd.prog 32 #[v] w fun e w' => e = .returned (.string (joinS xs)) ∧ Below w.heap.size w w' := by
  by_cases h0 : xs = []
  · subst h0
    obtain ⟨A, c, rfl⟩ := own_slice h
    have e : joinS [] = ⟨#[110, 111, 110, 101]⟩ := rfl
    rw [e]
    clear h hlen hn e
    have b0 : (([] : List ByteArray).length : Int) = 0 := rfl
    show Calls Tryd.prog 32 #[.slice A 0 c] w _
    go_enter Tryd.func32, Tryd.ntmps32
    go_wp2_with fail
    go_ret
    exact ⟨rfl, Below.refl _ _⟩
  · have hpos : 0 < xs.length := List.length_pos_iff.2 h0
    rcases h.2 with ⟨rfl, hz⟩ | ⟨g, cap, cur, rfl, hb, hh, hncap, hcm, hsz, htk⟩
    · omega
    · have hcell : ∀ (j : Nat) (x : ByteArray), xs[j]? = some x → w.cell? ⟨g, 0 + j, none⟩ = some (.string x) := by
        intro j x hx
        have hj : j < xs.length := by
          rcases Nat.lt_or_ge j xs.length with h | h
          · exact h
          · rw [List.getElem?_eq_none h] at hx; cases hx
        have := h.cells (g := g) rfl j (.string x) (by rw [List.getElem?_map, hx]; rfl)
        rw [Nat.zero_add]
        have ha : (⟨g, 0, none⟩ : Addr).add j = ⟨g, j, none⟩ := add_plain g j
        rw [ha] at this
        exact this
      have hg : g < w.heap.size := (Array.getElem?_eq_some_iff.1 hh).1
      have e : joinS xs = ⟨(Lib.join (xs.map (·.data.toList)) [44]).toArray⟩ := if_neg h0
      rw [e]
      have HC : Hid (∀ (j : Nat) (x : ByteArray), xs[j]? = some x → w.cell? ⟨g, 0 + j, none⟩ = some (.string x)) := hcell
      have b0 : ((xs.length : Int) == 0) = false := by simp; omega
      have H1 : Hid (xs.length ≤ cap) := hncap
      have H2 : Hid ((Lib.join (xs.map (·.data.toList)) [44]).length ≤ 1000000) := hlen
      have H3 : Hid (xs.length ≤ 1000000) := hn
      clear hcell h hb hh hncap hcm hsz htk h0 hpos e hlen hn
      go_enter Tryd.func32, Tryd.ntmps32
      go_wp2_with (first | (go_at_call 46; refine (Tryd.strings_Join g 0 cap xs ⟨#[44]⟩ _ HC.out hg (Nat.le_trans H3.out (by decide)) H1.out (Nat.le_trans H2.out (by decide))).mono ?_; rintro e w1 ⟨rfl, hb1⟩) | fail)
      go_ret
      exact ⟨rfl, hb1⟩
end Go.Proofs.YtjfoimbeflobkabDoor
namespace Go.Proofs.YtjfoimbeflobkabDoor
open Go.ChangeShapes Go.WideShapes Go.ChangeAt Go.RowKit Go.Deep
open Go.ChangeMaps (open_string shut_string)

/-- A row of cells that can be read from A on; nil has none. -/
def RowIn (w : World) (A : Option Addr) (cs : List Value) : Prop :=
  (A = none ∧ cs = []) ∨ ∃ b off, A = some ⟨b, off, none⟩ ∧ b < w.heap.size ∧ ∀ i v, cs[i]? = some v → w.cell? ⟨b, off + i, none⟩ = some v

section
variable {H : Type} {enc : TypeId × Value → H} {P : Program} {w : World} {base : Nat} {spare : Nat → Bool} {held : Bool}

theorem flt_lt {k : FloatKind} {b : Nat} (h : (Lit.float k b).wf = true) : b < 2 ^ k.format.width := by
  cases k
  · show b < 4294967296; simpa [Lit.wf] using h
  · show b < 18446744073709551616; simpa [Lit.wf] using h

theorem op_float {r : Reach} {b0 : Nat} {t : TypeId} {k : FloatKind} {v : Value} {d : DataW H} {ps : List MemPlace} (ht : P.underlying t = some (.float k)) (hval : Value.okWide P w r b0 t v) (hd : DataW.Trod enc P w base spare held t v d ps) :
    ∃ b, b < 2 ^ k.format.width ∧ v = .float k b := by
  obtain ⟨b, rfl, _, _, hw⟩ := open_float ht hval hd
  exact ⟨b, flt_lt hw, rfl⟩

theorem op_int {r : Reach} {b0 : Nat} {t : TypeId} {k : IntKind} {v : Value} {d : DataW H} {ps : List MemPlace} (ht : P.underlying t = some (.int k)) (hval : Value.okWide P w r b0 t v) (hd : DataW.Trod enc P w base spare held t v d ps) :
    ∃ n, (k.min ≤ n ∧ n ≤ k.max) ∧ v = .int k n := by
  obtain ⟨n, rfl, _, _, hw⟩ := open_int ht hval hd
  exact ⟨n, by simpa [Lit.wf] using hw, rfl⟩

theorem op_string {r : Reach} {b0 : Nat} {t : TypeId} {v : Value} {d : DataW H} {ps : List MemPlace} (ht : P.underlying t = some .string) (hval : Value.okWide P w r b0 t v) (hd : DataW.Trod enc P w base spare held t v d ps) :
    ∃ s : ByteArray, s.size ≤ maxLen ∧ v = .string s := by
  obtain ⟨s, rfl, _, _, hw⟩ := open_string ht hval hd
  exact ⟨s, hw, rfl⟩

theorem trod_float {t : TypeId} {k : FloatKind} {n : Nat} {v : Value} {x : DataW H × List MemPlace} (ht : P.underlying t = some (.float k)) (h : DataW.trod enc P w base spare held n t [v] = some x) :
    ∃ b, b < 2 ^ k.format.width ∧ v = .float k b := by
  cases n with
  | zero => simp [DataW.trod] at h
  | succ n =>
    simp only [DataW.trod, ht] at h
    cases v <;> simp at h
    rename_i k' b
    obtain ⟨⟨rfl, hw⟩, _⟩ := h
    exact ⟨b, flt_lt hw, rfl⟩

theorem op_vec {r : Reach} {b0 : Nat} {t f : TypeId} {F : Array Field} {v : Value} {d : DataW H} {p : List MemPlace} (hs : P.underlying t = some (.struct F)) (hf : P.underlying f = some (.float .f32))
    (hF : (F.map (·.type)) = #[f, f, f]) (hone0 : oneCellFields P F = true) (hC : P.cellsOf t = 3)
    (hv : Value.okWide P w r b0 t v) (h : DataW.Trod enc P w base spare held t v d p) :
    ∃ x y z : Nat, x < 2 ^ 32 ∧ y < 2 ^ 32 ∧ z < 2 ^ 32 ∧ v = .agg #[.float .f32 x, .float .f32 y, .float .f32 z] := by
  obtain ⟨F⟩ := F
  have hl : F.length = 3 := by simpa using congrArg Array.size hF
  match F, hl with
  | [f0, f1, f2], _ =>
    simp at hF
    obtain ⟨e0, e1, e2⟩ := hF
    have hone : oneCellFields P #[f0, f1, f2] = true := hone0
    obtain ⟨v0, v1, v2, y0, y1, y2, n, rfl, _, _, t0, t1, t2⟩ := Joins.open_agg3 hs hone hC hv h
    rw [e0] at t0; rw [e1] at t1; rw [e2] at t2
    obtain ⟨x, hx, rfl⟩ := trod_float hf t0
    obtain ⟨y, hy, rfl⟩ := trod_float hf t1
    obtain ⟨z, hz, rfl⟩ := trod_float hf t2
    exact ⟨x, y, z, hx, hy, hz, rfl⟩
end
end Go.Proofs.YtjfoimbeflobkabDoor
namespace Go.Proofs.YtjfoimbeflobkabDoor
open Go.RowKit
set_option linter.unusedVariables false

def inR (n lo hi : Int) : Bool := decide (lo ≤ n ∧ n ≤ hi)
theorem inR_true {n lo hi : Int} (h0 : lo ≤ n) (h1 : n ≤ hi) : inR n lo hi = true := decide_eq_true ⟨h0, h1⟩
theorem inR_false {n lo hi : Int} (h : n < lo ∨ hi < n) : inR n lo hi = false := decide_eq_false (by omega)

theorem spec_l00In (n lo hi : Int) (w : World) : Calls Tryd.prog 52 #[.int .i64 n, .int .i64 lo, .int .i64 hi] w fun e w' => e = .returned (.bool (inR n lo hi)) ∧ w' = w := by
  by_cases h0 : lo ≤ n
  · by_cases h1 : n ≤ hi
    · go_enter Tryd.func52, Tryd.ntmps52
      go_wp2
      go_ret
      exact ⟨by rw [inR_true h0 h1]; rfl, rfl⟩
    · have hd : decide (n ≤ hi) = false := decide_eq_false h1
      go_enter Tryd.func52, Tryd.ntmps52
      go_wp2
      go_ret
      exact ⟨by rw [inR_false (by omega)]; rfl, rfl⟩
  · have hd : decide (lo ≤ n) = false := decide_eq_false h0
    go_enter Tryd.func52, Tryd.ntmps52
    go_wp2
    go_ret
    exact ⟨by rw [inR_false (by omega)]; rfl, rfl⟩

theorem impl_within (n lo hi : Int) (w : World) : Calls Tryd.prog 69 #[.int .i64 n, .int .i64 lo, .int .i64 hi] w fun e w' => e = .returned (.bool (inR n lo hi)) ∧ w' = w := by
  by_cases h0 : lo ≤ n
  · by_cases h1 : n ≤ hi
    · go_enter Tryd.func69, Tryd.ntmps69
      go_wp2
      go_ret
      exact ⟨by rw [inR_true h0 h1]; rfl, rfl⟩
    · have hd : decide (n ≤ hi) = false := decide_eq_false h1
      go_enter Tryd.func69, Tryd.ntmps69
      go_wp2
      go_ret
      exact ⟨by rw [inR_false (by omega)]; rfl, rfl⟩
  · have hd : decide (lo ≤ n) = false := decide_eq_false h0
    go_enter Tryd.func69, Tryd.ntmps69
    go_wp2
    go_ret
    exact ⟨by rw [inR_false (by omega)]; rfl, rfl⟩

end Go.Proofs.YtjfoimbeflobkabDoor
namespace Go.Proofs.YtjfoimbeflobkabDoor
open Fl Ieee Go.RowKit
set_option linter.unusedVariables false

theorem sameFloat_FR (a b : Nat) (X : Option Nat) (ha : FR .f64 a X) (hb : FR .f64 b X) (w : World) :
    Calls Tryd.prog 33 #[.float .f64 a, .float .f64 b] w fun e w' => e = .returned (.bool true) ∧ ∃ n, w' = w.drewN n :=
  sameFloat_eq a b (ha.val.trans hb.val.symm) w

end Go.Proofs.YtjfoimbeflobkabDoor
namespace Go.Proofs.YtjfoimbeflobkabDoor
open Fl Go.RowKit
set_option linter.unusedVariables false

@[go_sem] theorem run_store_float {P : Program} {w : World} {a : Addr} {m : Mode} (k : FloatKind) (b : Nat) : (store a (.float k b) m).run P w = stored P w a (.float k b) m := run_store P w a _ m rfl

theorem setCell_same_of {w : World} {a : Addr} {v : Value} (h : (w.cell? a).isSome = true) : (w.setCell a v).cell? a = some v := by
  obtain ⟨u, hu⟩ := Option.isSome_iff_exists.1 h
  exact World.cell?_setCell_same _ _ _ hu

theorem Below.drewN {B : Nat} {a w : World} (h : Below B a w) (n : Nat) : Below B a (w.drewN n) := ⟨h.os, h.tape, h.output, h.size, h.block⟩

theorem laws_toVector (x y z : Nat) (w : World) : Calls Tryd.prog 18 #[.agg #[.float .f32 x, .float .f32 y, .float .f32 z]] w fun e w' => e = .returned (.agg #[.float .f32 x, .float .f32 y, .float .f32 z]) ∧ Below w.heap.size w w' := by
  go_enter Tryd.func18, Tryd.ntmps18
  go_wp2
  go_returns
  refine ⟨rfl, ?_⟩
  (repeat (first | exact Below.refl _ _ | assumption | (refine Below.drewN ?_ _) | (refine Below.setCell ?_ (by first | (simp; done) | (simp; omega)) _) | (refine Below.drew ?_) | (refine Below.alloc ?_ (by first | (simp; done) | (simp; omega)) _)))

theorem laws_eqVector (a b c x y z : Nat) (X Y Z : Option Nat) (ha : FR .f32 a X) (hb : FR .f32 b Y) (hc : FR .f32 c Z) (hx : FR .f32 x X) (hy : FR .f32 y Y) (hz : FR .f32 z Z) (w : World) :
    Calls Tryd.prog 26 #[.agg #[.float .f32 a, .float .f32 b, .float .f32 c], .agg #[.float .f32 x, .float .f32 y, .float .f32 z]] w fun e w' => e = .returned (.bool true) ∧ Below w.heap.size w w' := by
  go_enter Tryd.func26, Tryd.ntmps26
  go_wp2_with (first | (refine wpList_widen (o := ⟨some 7, _, _, _, _, _⟩) rfl _ _ _ rfl _ rfl (by kernel_rfl) (by kernel_rfl) ?_; intro a1 na1 ha1; rw [ha.val] at ha1) | (refine wpList_widen (o := ⟨some 10, _, _, _, _, _⟩) rfl _ _ _ rfl _ rfl (by kernel_rfl) (by kernel_rfl) ?_; intro x1 nx1 hx1; rw [hx.val] at hx1) | (refine wpList_widen (o := ⟨some 15, _, _, _, _, _⟩) rfl _ _ _ rfl _ rfl (by kernel_rfl) (by kernel_rfl) ?_; intro b1 nb1 hb1; rw [hb.val] at hb1) | (refine wpList_widen (o := ⟨some 18, _, _, _, _, _⟩) rfl _ _ _ rfl _ rfl (by kernel_rfl) (by kernel_rfl) ?_; intro y1 ny1 hy1; rw [hy.val] at hy1) | (refine wpList_widen (o := ⟨some 23, _, _, _, _, _⟩) rfl _ _ _ rfl _ rfl (by kernel_rfl) (by kernel_rfl) ?_; intro c1 nc1 hc1; rw [hc.val] at hc1) | (refine wpList_widen (o := ⟨some 26, _, _, _, _, _⟩) rfl _ _ _ rfl _ rfl (by kernel_rfl) (by kernel_rfl) ?_; intro z1 nz1 hz1; rw [hz.val] at hz1) | (go_at_call 33; refine (sameFloat_FR _ _ _ (by assumption) (by assumption) _).mono ?_; rintro e w' ⟨rfl, n, rfl⟩) | fail)
  go_ret
  refine ⟨rfl, ?_⟩
  (repeat (first | exact Below.refl _ _ | assumption | (refine Below.drewN ?_ _) | (refine Below.setCell ?_ (by first | (simp; done) | (simp; omega)) _) | (refine Below.drew ?_) | (refine Below.alloc ?_ (by first | (simp; done) | (simp; omega)) _)))
end Go.Proofs.YtjfoimbeflobkabDoor
namespace Go.Proofs.YtjfoimbeflobkabDoor
open Go.ChangeShapes Go.WideShapes Go.ChangeAt Go.RowKit Go.Deep Fl
set_option linter.unusedVariables false

/-- Where slice value '.slice A n cap' leads, the floats xs can be read; they lie below block H. -/
def FloatsAt (w : World) (H : Nat) (A : Option Addr) (xs : List Nat) : Prop :=
  ∀ i, i < xs.length → ∃ b off, A = some ⟨b, off, none⟩ ∧ b < H ∧ w.cell? ⟨b, off + i, none⟩ = some (.float .f32 (xs.getD i 0)) ∧ xs.getD i 0 < 4294967296

theorem FloatsAt.below {w w' : World} {B H : Nat} {A : Option Addr} {xs : List Nat} (h : FloatsAt w H A xs) (hH : H ≤ B) (hb : Below B w w') : FloatsAt w' H A xs := by
  intro i hi
  obtain ⟨b, off, h1, h2, h3, h4⟩ := h i hi
  exact ⟨b, off, h1, h2, (hb.cell (Nat.lt_of_lt_of_le h2 hH)).trans h3, h4⟩

theorem FloatsAt.drewN {w : World} {A : Option Addr} {xs : List Nat} (h : FloatsAt w w.heap.size A xs) (n : Nat) : FloatsAt (w.drewN n) (w.drewN n).heap.size A xs := h

theorem FloatsAt.up {w w' : World} {A : Option Addr} {xs : List Nat} (h : FloatsAt w w.heap.size A xs) (hb : Below w.heap.size w w') : FloatsAt w' w'.heap.size A xs := by
  intro i hi
  obtain ⟨b, off, h1, h2, h3, h4⟩ := h i hi
  exact ⟨b, off, h1, Nat.lt_of_lt_of_le h2 hb.size, (hb.cell h2).trans h3, h4⟩

section
variable {H : Type} {enc : TypeId × Value → H} {P : Program} {w : World} {base : Nat} {spare : Nat → Bool} {held : Bool}

theorem op_f32s {r : Reach} {b0 : Nat} {t f : TypeId} {v : Value} {d : DataW H} {p : List MemPlace} (ht : P.underlying t = some (.slice f)) (hf : P.underlying f = some (.float .f32)) (hc : P.cellsOf f = 1)
    (hv : Value.okWide P w r b0 t v) (h : DataW.Trod enc P w base spare held t v d p) :
    ∃ (A : Option Addr) (n cap : Nat) (xs : List Nat), v = .slice A n cap ∧ xs.length = n ∧ n ≤ maxLen ∧ FloatsAt w w.heap.size A xs := by
  obtain ⟨fuel, hfu⟩ := h
  obtain ⟨A, n, cap, rfl⟩ := okWide_slice ht hv
  simp only [Value.cells] at hfu
  rcases open_slice1 ht hc hfu with ⟨h0, _⟩ | ⟨a, len, cap', m, n', V, D, Pl, h0, hb, hl, hmx, hm, _, hV⟩
  · cases h0
    exact ⟨none, 0, 0, [], rfl, rfl, Nat.zero_le _, fun i hi => absurd hi (Nat.not_lt_zero _)⟩
  · cases h0
    have hm' : n ≤ m := by rw [hm]; split <;> omega
    have hx : ∀ i, i < n → ∃ b, b < 4294967296 ∧ V i = .float .f32 b := fun i hi => trod_float hf (hV i (Nat.lt_of_lt_of_le hi hm')).2
    obtain ⟨g, hg⟩ : ∃ g : Nat → Nat, ∀ i, i < n → g i < 4294967296 ∧ V i = .float .f32 (g i) := by
      refine ⟨fun i => if h : i < n then (hx i h).choose else 0, fun i hi => ?_⟩
      simp only [hi, dite_true]
      exact (hx i hi).choose_spec
    refine ⟨some a, n, cap, (List.range n).map g, rfl, by simp, Nat.le_trans hl hmx, fun i hi => ?_⟩
    have hi' : i < n := by simpa using hi
    have hcell := (hV i (Nat.lt_of_lt_of_le hi' hm')).1
    have hcell0 := (hV 0 (Nat.lt_of_lt_of_le (Nat.lt_of_le_of_lt (Nat.zero_le _) hi') hm')).1
    obtain ⟨b, off, spot⟩ := a
    have hcell0' : w.cell? ⟨b, off, spot⟩ = some (V 0) := by simpa [Addr.add] using hcell0
    obtain ⟨_, _, _, _, hspot⟩ := World.shape?_of_cell? hcell0'
    have hspot' : spot = none := hspot
    subst hspot'
    have hcell' : w.cell? ⟨b, off + i, none⟩ = some (V i) := by
      by_cases h0 : i = 0
      · subst h0; exact hcell0'
      · simpa [Addr.add, h0] using hcell
    refine ⟨b, off, rfl, World.block_lt_of_cell? _ _ hcell', ?_, ?_⟩
    · rw [hcell', (hg i hi').2]; simp [List.getD, hi']
    · simp [List.getD, hi', (hg i hi').1]
end
end Go.Proofs.YtjfoimbeflobkabDoor
namespace Go.Proofs.YtjfoimbeflobkabDoor
open Fl Go.RowKit Go.Proofs.YtjfoimbeflobkabDoorW.PrintWords
set_option linter.unusedVariables false

/-- A number's digits. -/
def hx (x : Nat) : ByteArray := hexS (bitsV (val .f32 x)).toNat
theorem hx_size (x : Nat) : (hx x).size = 8 := hexS_size _
theorem hx_len (x : Nat) : (hx x).data.toList.length = 8 := hexFix_len 8 _

/-- The text of a list. -/
def textF (xs : List Nat) : ByteArray := joinS (xs.map hx)

theorem joinTail_cons (sep x : List UInt8) (r : List (List UInt8)) : Lib.joinTail sep (x :: r) = sep ++ x ++ Lib.joinTail sep r := rfl
theorem joinTail_snoc (sep : List UInt8) (r : List (List UInt8)) (p : List UInt8) : Lib.joinTail sep (r ++ [p]) = Lib.joinTail sep r ++ (sep ++ p) := by simp [Lib.joinTail]

theorem join_snoc (l : List (List UInt8)) (p : List UInt8) (h : l ≠ []) : Lib.join (l ++ [p]) [44] = Lib.join l [44] ++ (44 :: p) := by
  cases l with
  | nil => exact absurd rfl h
  | cons x r =>
    rw [List.cons_append, Lib.join_cons, Lib.join_cons, joinTail_snoc]
    simp

/-- The first k joined. -/
def joinN (xs : List Nat) (k : Nat) : ByteArray := ⟨(Lib.join ((xs.take k).map fun x => (hx x).data.toList) [44]).toArray⟩

theorem joinN_one (xs : List Nat) (h : 0 < xs.length) : joinN xs 1 = hx (xs.getD 0 0) := by
  cases xs with
  | nil => exact absurd h (Nat.lt_irrefl 0)
  | cons x r =>
    have e : (x :: r).take 1 = [x] := rfl
    unfold joinN
    rw [e, List.map_cons, Lib.join_cons]
    simp [Lib.joinTail]

theorem joinN_succ (xs : List Nat) (k : Nat) (h0 : 0 < k) (h : k < xs.length) : joinN xs (k + 1) = joinN xs k ++ (⟨#[44]⟩ ++ hx (xs.getD k 0)) := by
  have e : xs.getD k 0 = xs[k] := by rw [List.getD_eq_getElem?_getD, List.getElem?_eq_getElem h]; rfl
  unfold joinN
  rw [List.take_succ_eq_append_getElem h, List.map_append, List.map_cons, List.map_nil, join_snoc _ _ (by intro e; have := congrArg List.length e; rw [List.length_map, List.length_take, List.length_nil] at this; omega), e]
  apply ByteArray.ext
  rw [ByteArray.data_append, ByteArray.data_append]
  apply Array.toList_inj.1
  simp

theorem joinN_all (xs : List Nat) (h : 0 < xs.length) : joinN xs xs.length = textF xs := by
  have hne : xs.map hx ≠ [] := by intro e; have := congrArg List.length e; rw [List.length_map, List.length_nil] at this; omega
  unfold joinN textF joinS
  rw [if_neg hne, List.take_length, List.map_map]
  rfl

theorem joinTail_len : ∀ l : List Nat, (Lib.joinTail [44] (l.map fun x => (hx x).data.toList)).length = 9 * l.length
  | [] => rfl
  | x :: r => by
    rw [List.map_cons]
    rw [joinTail_cons, List.length_append, List.length_append, joinTail_len r, hx_len, List.length_cons]
    show 1 + 8 + 9 * r.length = 9 * (r.length + 1)
    omega

theorem join_len9 (l : List Nat) : (Lib.join (l.map fun x => (hx x).data.toList) [44]).length ≤ 9 * l.length := by
  cases l with
  | nil => simp [Lib.join_nil]
  | cons x r =>
    rw [List.map_cons, Lib.join_cons, List.length_append, joinTail_len, hx_len]
    simp; omega

theorem joinN_size (xs : List Nat) (k : Nat) : (joinN xs k).size ≤ 9 * k := by
  have h := join_len9 (xs.take k)
  show (Lib.join ((xs.take k).map fun x => (hx x).data.toList) [44]).toArray.size ≤ _
  rw [List.size_toArray]
  have : (xs.take k).length ≤ k := by rw [List.length_take]; omega
  omega

theorem spec_l01NText (A : Option Addr) (cap : Nat) (xs : List Nat) (n : Nat) (hn : xs.length = n) (hle : n ≤ 256) (w : World) (hA : FloatsAt w w.heap.size A xs) :
    Calls Tryd.prog 30 #[.slice A n cap] w fun e w' => e = .returned (.string (textF xs)) ∧ Below w.heap.size w w' := by
  by_cases h0 : n = 0
  · subst h0
    obtain rfl : xs = [] := List.length_eq_zero_iff.1 hn
    clear hA hn hle
    go_enter Tryd.func30, Tryd.ntmps30
    go_wp2_with fail
    go_ret
    exact ⟨rfl, Below.refl _ _⟩
  · have b0 : ((n : Int) == 0) = false := by simp; omega
    have b1 : (0 : Int) < (n : Int) := by omega
    obtain ⟨b, off, rfl, hbl, hcell, hxl⟩ := hA 0 (by omega)
    have HA : Hid (FloatsAt w w.heap.size (some ⟨b, off, none⟩) xs) := hA
    have HN : Hid (xs.length = n) := hn
    have h1 := joinN_one xs (by omega)
    have hall : joinN xs n = textF xs := by have := joinN_all xs (by omega); rw [hn] at this; exact this
    have hhex := fun w => spec_l01Hex (xs.getD 0 0) hxl w
    have HH : Hid (∀ w, Calls Tryd.prog 42 #[.float .f32 (xs.getD 0 0)] w fun e w' => e = .returned (.string (joinN xs 1)) ∧ Below w.heap.size w w') := by rw [h1]; exact hhex
    have HALL := Lib.hid hall
    rw [Nat.add_zero] at hcell
    have hlt1 : 1 ≤ n := by omega
    clear hA hn h1 hall hhex h0
    go_enter Tryd.func30, Tryd.ntmps30
    go_wp2_with (first | (go_at_call 42; refine (HH.out _).mono ?_; rintro e w1 ⟨rfl, hb1⟩) | fail)
    go_loopw [3, 4] (fun t i wr => ∃ (k : Nat) (s : ByteArray), k ≤ n ∧ 1 ≤ k ∧ i = .int .i64 (k : Int) ∧ t = .string s ∧ Hid (s = joinN xs k) ∧ Below w.heap.size w wr) (fun _ i _ => n - (intOf i).toNat)
    case atStart => exact ⟨1, joinN xs 1, hlt1, Nat.le_refl _, rfl, rfl, by exact rfl, hb1⟩
    case round =>
      clear hcell hb1 HH
      obtain ⟨k, s, hk, hk1, rfl, rfl, hs, hb⟩ := hrel
      have hss : s.size ≤ 4000 := by rw [hs.out]; have := joinN_size xs k; omega
      by_cases hlt : k < n
      · have c1 : (k : Int) < (n : Int) := by omega
        have c2 : (0 : Int) ≤ (k : Int) := by omega
        have c3 : (k : Int) ≤ 256 := by omega
        obtain ⟨b', off', he, hbl', hcell', hxl'⟩ := HA.out k (by rw [HN.out]; exact hlt)
        cases he
        have hc := (hb.cell hbl').trans hcell'
        have hhex := fun w => spec_l01Hex (xs.getD k 0) hxl' w
        obtain ⟨q, hq⟩ : ∃ q, q = hx (xs.getD k 0) := ⟨_, rfl⟩
        have hqs : q.size = 8 := by rw [hq]; exact hx_size _
        have HH : Hid (∀ w, Calls Tryd.prog 42 #[.float .f32 (xs.getD k 0)] w fun e w' => e = .returned (.string q) ∧ Below w.heap.size w w') := by rw [hq]; exact hhex
        have hj := joinN_succ xs k hk1 (by rw [HN.out]; exact hlt)
        rw [← hq, ← hs.out] at hj
        have HJ := Lib.hid hj
        clear hhex hq hj hcell'
        generalize xs.getD k 0 = x at *
        go_wp2_with (first | (go_at_call 42; refine (HH.out _).mono ?_; rintro e w1 ⟨rfl, hb1⟩) | fail)
        go_roundw
        case rel => exact ⟨k + 1, _, hlt, by omega, by simp, rfl, by exact HJ.out.symm, hex_next hb hb1⟩
        case measure => simp [intOf]; omega
      · obtain rfl : k = n := by omega
        go_wp2_with fail
        go_ret
        exact ⟨by rw [← HALL.out, ← hs.out]; rfl, hb⟩

theorem hx_map_len (xs : List Nat) : (Lib.join ((xs.map hx).map (·.data.toList)) [44]).length ≤ 9 * xs.length := by
  rw [List.map_map]
  exact join_len9 xs

/-- The digits of the first k numbers. -/
def hexVals (xs : List Nat) (k : Nat) : List Value := ((xs.take k).map hx).map Value.string
theorem hexVals_len (xs : List Nat) (k : Nat) (h : k ≤ xs.length) : (hexVals xs k).length = k := by simp [hexVals]; omega
theorem hexVals_succ (xs : List Nat) (k : Nat) (h : k < xs.length) : hexVals xs (k + 1) = hexVals xs k ++ [.string (hx (xs.getD k 0))] := by
  have e : xs.getD k 0 = xs[k] := by rw [List.getD_eq_getElem?_getD, List.getElem?_eq_getElem h]; rfl
  unfold hexVals
  rw [List.take_succ_eq_append_getElem h, List.map_append, List.map_append, e]
  rfl

theorem impl_NumbersText_few (A : Option Addr) (cap : Nat) (xs : List Nat) (n : Nat) (hn : xs.length = n) (hle : n ≤ 256) (w : World) (hA : FloatsAt w w.heap.size A xs) (hz : TabZ w) :
    Calls Tryd.prog 15 #[.slice A n cap] w fun e w' => e = .returned (.tuple #[.string (textF xs), .bool true]) ∧ Below w.heap.size w w' := by
  have HA : Hid (FloatsAt w w.heap.size A xs) := hA
  have HN : Hid (xs.length = n) := hn
  have HZ : Hid (TabZ w) := hz
  have b0 : ¬ (256 : Int) < (n : Int) := by omega
  clear hA hn hz
  go_enter Tryd.func15, Tryd.ntmps15
  go_wp2_with fail
  go_loopw [4, 13] (fun t i wr => ∃ k : Nat, k ≤ n ∧ i = .int .i64 (k : Int) ∧ Hid (wr.ownsRow w.heap.size 9 1 t (hexVals xs k).length (hexVals xs k)) ∧ Below w.heap.size w wr) (fun _ i _ => n - (intOf i).toNat)
  case atStart => exact ⟨0, Nat.zero_le _, rfl, by exact World.ownsRow_made _ _ _ (Nat.le_refl _) (by decide) (by simp), Below.alloc (Below.refl _ _) (Nat.le_refl _) _⟩
  case round =>
    obtain ⟨k, hk, rfl, hown, hb⟩ := hrel
    by_cases hlt : k < n
    · have c1 : (k : Int) < (n : Int) := by omega
      have c2 : (0 : Int) ≤ (k : Int) := by omega
      have c3 : (k : Int) ≤ 256 := by omega
      obtain ⟨b', off', rfl, hbl', hcell', hxl'⟩ := HA.out k (by rw [HN.out]; exact hlt)
      have hc := (hb.cell hbl').trans hcell'
      have hhex := impl_hexOf (xs.getD k 0) hxl'
      obtain ⟨q, hq⟩ : ∃ q, q = hx (xs.getD k 0) := ⟨_, rfl⟩
      have HH : Hid (∀ w, TabZ w → Calls Tryd.prog 31 #[.float .f32 (xs.getD k 0)] w fun e w' => e = .returned (.string q) ∧ Below w.heap.size w w') := by rw [hq]; exact hhex
      have hj := hexVals_succ xs k (by rw [HN.out]; exact hlt)
      rw [← hq] at hj
      have HJ := Lib.hid hj
      have hlen : (hexVals xs k).length ≤ 256 := by rw [hexVals_len xs k (by rw [HN.out]; exact hk)]; omega
      clear hhex hq hj hcell'
      generalize xs.getD k 0 = x at *
      go_wp2_with (first | (go_at_call 31; refine (HH.out _ (HZ.out.below hb)).mono ?_; rintro e w1 ⟨rfl, hb1⟩; have K1 : Below w.heap.size w w1 := hex_next hb hb1; have O1 := pw_own_below (Hid.out hown) hb1) | (at_builtin; refine print_append (w0 := w) w.heap.size rfl (.tmp 17) (.tmp 20) 48 9 (.string ByteArray.empty) 16 rfl Tryd.underlying48 (by kernel_rfl) rfl (by decide) u4 (hexVals xs k) (.string q) (by rfl) (by rfl) rfl O1 K1 K1.size (by omega) ?_; intro v3 w3 hown3 K3 hg3 hat3; clear hat3 hg3) | fail)
      have HO3 := Lib.hid hown3
      clear hown3
      go_roundw
      case rel => exact ⟨k + 1, hlt, by simp, by rw [HJ.out]; exact HO3.out, K3⟩
      case measure => simp [intOf]; omega
    · obtain rfl : k = n := by omega
      have hown' := hown.out
      have e1 : hexVals xs k = (xs.map hx).map Value.string := by unfold hexVals; rw [← HN.out, List.take_length]
      rw [e1, List.length_map] at hown'
      have HO := Lib.hid hown'
      have HJ : Hid ((Lib.join ((xs.map hx).map (·.data.toList)) [44]).length ≤ 1000000) := by have := hx_map_len xs; have h2 := HN.out; show _ ≤ _; omega
      have HL : Hid ((xs.map hx).length ≤ 1000000) := by have h2 := HN.out; show (xs.map hx).length ≤ 1000000; rw [List.length_map]; omega
      have HE : Hid (joinS (xs.map hx) = textF xs) := rfl
      clear hown hown' e1
      go_wp2_with (first | (go_at_call 32; refine (impl_joined w.heap.size _ (xs.map hx) _ HO.out HJ.out HL.out).mono ?_; rintro e w2 ⟨rfl, hb2⟩) | fail)
      go_ret2
      exact ⟨by rw [HE.out]; rfl, hex_next hb hb2⟩

theorem impl_NumbersText_many (A : Option Addr) (cap n : Nat) (hle : ¬ n ≤ 256) (w : World) :
    Calls Tryd.prog 15 #[.slice A n cap] w fun e w' => e = .returned (.tuple #[.string ⟨#[]⟩, .bool false]) ∧ w = w' := by
  have b0 : (256 : Int) < (n : Int) := by omega
  go_enter Tryd.func15, Tryd.ntmps15
  go_wp2_with fail
  go_ret2
  exact ⟨rfl, rfl⟩

/-- What NumbersText returns. -/
def numF (xs : List Nat) : ByteArray × Bool := if xs.length ≤ 256 then (textF xs, true) else (⟨#[]⟩, false)

theorem impl_NumbersText (A : Option Addr) (cap : Nat) (xs : List Nat) (n : Nat) (hn : xs.length = n) (w : World) (hA : FloatsAt w w.heap.size A xs) (hz : TabZ w) :
    Calls Tryd.prog 15 #[.slice A n cap] w fun e w' => e = .returned (.tuple #[.string (numF xs).1, .bool (numF xs).2]) ∧ Below w.heap.size w w' := by
  by_cases h : n ≤ 256
  · have e : numF xs = (textF xs, true) := if_pos (by omega)
    rw [e]
    exact impl_NumbersText_few A cap xs n hn h w hA hz
  · have e : numF xs = (⟨#[]⟩, false) := if_neg (by omega)
    rw [e]
    refine (impl_NumbersText_many A cap n h w).mono ?_
    rintro e w' ⟨rfl, rfl⟩
    exact ⟨rfl, Below.refl _ _⟩

theorem spec_l01Few_n (A : Option Addr) (cap n : Nat) (w : World) : Calls Tryd.prog 29 #[.slice A n cap] w fun e w' => e = .returned (.bool (decide (n ≤ 256))) ∧ w = w' := by
  by_cases h : n ≤ 256
  · rw [decide_eq_true h]
    have b1 : (n : Int) ≤ 256 := by omega
    go_enter Tryd.func29, Tryd.ntmps29
    go_wp2_with fail
    go_ret
    exact ⟨rfl, rfl⟩
  · rw [decide_eq_false h]
    have b1 : ¬ (n : Int) ≤ 256 := by omega
    go_enter Tryd.func29, Tryd.ntmps29
    go_wp2_with fail
    go_ret
    exact ⟨rfl, rfl⟩

theorem spec_NumbersText (A : Option Addr) (cap : Nat) (xs : List Nat) (n : Nat) (hn : xs.length = n) (w : World) (hA : FloatsAt w w.heap.size A xs) :
    Calls Tryd.prog 13 #[.slice A n cap] w fun e w' => e = .returned (.tuple #[.string (numF xs).1, .bool (numF xs).2]) ∧ Below w.heap.size w w' := by
  have hfew := spec_l01Few_n A cap n
  have HA : Hid (FloatsAt w w.heap.size A xs) := hA
  have HN : Hid (xs.length = n) := hn
  by_cases h : n ≤ 256
  · have e : numF xs = (textF xs, true) := if_pos (by omega)
    rw [e]
    rw [decide_eq_true h] at hfew
    have HF := Lib.hid hfew
    clear hfew e hA hn
    go_enter Tryd.func13, Tryd.ntmps13
    go_wp2_with (first | (go_at_call 29; refine (HF.out _).mono ?_; rintro e w' ⟨rfl, rfl⟩) | (go_at_call 30; refine (spec_l01NText _ _ xs _ HN.out h _ HA.out).mono ?_; rintro e w1 ⟨rfl, hb1⟩) | fail)
    go_ret2
    exact ⟨rfl, hb1⟩
  · have e : numF xs = (⟨#[]⟩, false) := if_neg (by omega)
    rw [e]
    rw [decide_eq_false h] at hfew
    have HF := Lib.hid hfew
    clear hfew e hA hn
    go_enter Tryd.func13, Tryd.ntmps13
    go_wp2_with (first | (go_at_call 29; refine (HF.out _).mono ?_; rintro e w' ⟨rfl, rfl⟩) | fail)
    go_ret2
    exact ⟨rfl, Below.refl _ _⟩
end Go.Proofs.YtjfoimbeflobkabDoor
namespace Go.Proofs.YtjfoimbeflobkabDoor
open Go.RowKit Go.Proofs.YtjfoimbeflobkabDoor.Pl01Value

/-- The digits of m, none for 0. -/
def digs (m : Nat) : List Int := if m = 0 then [] else (Lib.decDigits m).map fun b => (b.toNat : Int)

theorem digit_nat (j : Nat) (h : j < 10) : (UInt8.ofNat (48 + j)).toNat = 48 + j := by
  rw [UInt8.toNat_ofNat']; omega

theorem digs_step (m : Nat) (h : m ≠ 0) : digs m = digs (m / 10) ++ [((48 + m % 10 : Nat) : Int)] := by
  unfold digs
  rw [if_neg h]
  by_cases h10 : m < 10
  · rw [if_pos (by omega), Lib.decDigits, dif_pos h10]
    simp [Nat.mod_eq_of_lt h10]; omega
  · rw [if_neg (by omega), Lib.decDigits, dif_neg h10, List.map_append]
    congr 1
    simp; omega

theorem wrap_id {x : Int} (h0 : -9223372036854775808 ≤ x) (h1 : x ≤ 9223372036854775807) : wrap64 x = x := by unfold wrap64; omega

/-- The sign's bytes. -/
def sgnB (n : Int) : List Int := if n < 0 then [45] else []

theorem dec_end (n : Int) (k : Nat) (xs : List Int) (hl : xs.length < 100) : spec_l01Dec.j1 (k + 1) n xs 0 false = some (strOfNums (sgnB n ++ xs)) := by
  simp only [spec_l01Dec.j1, sgnB]
  rw [if_neg (by decide)]
  by_cases hn : n < 0
  · rw [if_pos hn, if_pos hn]
    simp only [Option.bind_some]
    rw [if_pos (by simp; omega)]
  · rw [if_neg hn, if_neg hn]; rfl

theorem dec_round (n : Int) (k m : Nat) (s : Bool) (xs : List Int) (hm : m ≤ 9223372036854775808) (hs : s = false → m ≤ 9223372036854775807) (hl : xs.length < 100) :
    spec_l01Dec.j1 (k + 1) n xs (if s then -(m : Int) else (m : Int)) true = spec_l01Dec.l0 k n (((48 + m % 10 : Nat) : Int) :: xs) (if s then -((m / 10 : Nat) : Int) else ((m / 10 : Nat) : Int)) := by
  have hlt : m % 10 < 10 := Nat.mod_lt _ (by decide)
  simp only [spec_l01Dec.j1]
  rw [if_pos trivial]
  cases s
  · have e1 : Int.tmod (m : Int) 10 = ((m % 10 : Nat) : Int) := rfl
    have e2 : Int.tdiv (m : Int) 10 = ((m / 10 : Nat) : Int) := rfl
    simp only [Bool.false_eq_true, if_false, e1, e2, Option.bind_some]
    rw [if_neg (by omega), if_pos (by simp; omega), wrap_id (x := 48 + _) (by omega) (by omega), wrap_id (by omega) (by have := hs rfl; omega)]
    congr 1
    simp; omega
  · have e1 : Int.tmod (-(m : Int)) 10 = -((m % 10 : Nat) : Int) := by rw [Int.neg_tmod]; rfl
    have e2 : Int.tdiv (-(m : Int)) 10 = -((m / 10 : Nat) : Int) := by rw [Int.neg_tdiv]; rfl
    simp only [if_true, e1, e2, Option.bind_some, Int.neg_neg]
    by_cases h0 : m % 10 = 0
    · rw [if_neg (by omega), if_pos (by simp; omega), wrap_id (x := 48 + _) (by omega) (by omega), wrap_id (x := -((m / 10 : Nat) : Int)) (by omega) (by omega)]
      congr 1
      simp; omega
    · rw [if_pos (by omega), if_pos (by simp; omega), wrap_id (x := ((m % 10 : Nat) : Int)) (by omega) (by omega), wrap_id (x := 48 + _) (by omega) (by omega), wrap_id (x := -((m / 10 : Nat) : Int)) (by omega) (by omega)]
      congr 1
      simp; omega

theorem dec_l0 (n : Int) (s : Bool) (d : Nat) : ∀ (k m : Nat) (xs : List Int), xs ≠ [] → m < 10 ^ d → m ≤ 9223372036854775807 → 2 * d + 2 ≤ k → xs.length + d < 100 →
    spec_l01Dec.l0 k n xs (if s then -(m : Int) else (m : Int)) = some (strOfNums (sgnB n ++ digs m ++ xs)) := by
  have zero : ∀ (k : Nat) (xs : List Int), xs ≠ [] → 2 ≤ k → xs.length < 100 → spec_l01Dec.l0 k n xs (if s then -((0 : Nat) : Int) else ((0 : Nat) : Int)) = some (strOfNums (sgnB n ++ digs 0 ++ xs)) := by
    intro k xs hx hk hl
    obtain ⟨k, rfl⟩ : ∃ j, k = j + 2 := ⟨k - 2, by omega⟩
    have e : (if s then -((0 : Nat) : Int) else ((0 : Nat) : Int)) = 0 := by cases s <;> rfl
    have hne : ¬ (xs.length : Int) = 0 := by
      have := List.length_pos_iff.2 hx; omega
    rw [e]
    simp only [spec_l01Dec.l0]
    rw [if_neg hne, show ((0 : Int) != 0) = false from rfl, dec_end n k xs hl]
    simp [digs]
  induction d with
  | zero =>
    intro k m xs hx hm _ hk hl
    obtain rfl : m = 0 := by simpa using hm
    exact zero k xs hx (by omega) (by omega)
  | succ d ih =>
    intro k m xs hx hm hm63 hk hl
    by_cases h0 : m = 0
    · subst h0; exact zero k xs hx (by omega) (by omega)
    · obtain ⟨k, rfl⟩ : ∃ j, k = j + 2 := ⟨k - 2, by omega⟩
      have hne : ¬ (xs.length : Int) = 0 := by
        have := List.length_pos_iff.2 hx; omega
      have hb : ((if s then -(m : Int) else (m : Int)) != 0) = true := by cases s <;> simp <;> omega
      simp only [spec_l01Dec.l0]
      rw [if_neg hne, hb, dec_round n k m s xs (by omega) (fun _ => hm63) (by omega), ih k (m / 10) _ (by simp) (by rw [Nat.pow_succ] at hm; omega) (by omega) (by omega) (by simp; omega), digs_step m h0]
      simp

theorem itoa_nums (n : Int) : (Lib.itoa n).map (fun b => (b.toNat : Int)) = sgnB n ++ (Lib.decDigits n.natAbs).map fun b => (b.toNat : Int) := by
  unfold Lib.itoa sgnB
  by_cases hn : n < 0
  · rw [if_pos hn, if_pos hn]; rfl
  · rw [if_neg hn, if_neg hn, show n.toNat = n.natAbs by omega]; rfl

/-- The reference's numeral is the library's. -/
theorem dec_itoa (k : Nat) (hk : 50 ≤ k) (n : Int) (h0 : -9223372036854775808 ≤ n) (h1 : n ≤ 9223372036854775807) : spec_l01Dec.f k n = some (⟨(Lib.itoa n).toArray⟩ : ByteArray) := by
  obtain ⟨s, m, hn, hs⟩ : ∃ (s : Bool) (m : Nat), n = (if s then -(m : Int) else (m : Int)) ∧ (s = decide (n < 0)) := ⟨decide (n < 0), n.natAbs, by by_cases h : n < 0 <;> simp [h] <;> omega, rfl⟩
  have hab : n.natAbs = m := by rw [hn]; cases s <;> simp
  have hmle : m ≤ 9223372036854775808 := by omega
  have hms : s = false → m ≤ 9223372036854775807 := by
    intro h
    have : ¬ n < 0 := by rw [h] at hs; exact of_decide_eq_false hs.symm
    omega
  have hp : (10 : Nat) ^ 19 = 10000000000000000000 := by decide
  unfold spec_l01Dec.f
  obtain ⟨k, rfl⟩ : ∃ j, k = j + 2 := ⟨k - 2, by omega⟩
  have e0 : ∀ k, spec_l01Dec.l0 (k + 1) n [] n = spec_l01Dec.j1 k n [] n true := fun k => by
    simp only [spec_l01Dec.l0]
    rw [if_pos (by rfl)]
  have e1 : spec_l01Dec.l0 (k + 2) n [] n = spec_l01Dec.j1 (k + 1) n [] n true := e0 (k + 1)
  have e2 : spec_l01Dec.j1 (k + 1) n [] n true = spec_l01Dec.j1 (k + 1) n [] (if s then -(m : Int) else (m : Int)) true := by rw [← hn]
  rw [e1, e2, dec_round n k m s [] hmle hms (by decide), dec_l0 n s 19 k (m / 10) _ (by simp) (by omega) (by omega) (by omega) (by simp)]
  congr 1
  rw [← Lib.Lz.strOfNums_map, itoa_nums, hab, List.append_assoc]
  congr 2
  by_cases hm0 : m = 0
  · subst hm0; rw [Lib.decDigits, dif_pos (by decide)]; rfl
  · have := digs_step m hm0
    unfold digs at this
    rw [if_neg hm0] at this
    unfold digs
    rw [this]
end Go.Proofs.YtjfoimbeflobkabDoor
namespace Go.Proofs.YtjfoimbeflobkabDoor
open Go.RowKit Go.Proofs.YtjfoimbeflobkabDoor.Pl01Value Go.Proofs.YtjfoimbeflobkabDoorW.PrintWords
set_option linter.unusedVariables false

/-- What digits spell, behind 'acc'. -/
def dval (acc : Nat) : List UInt8 → Nat
  | [] => acc
  | c :: r => dval (acc * 10 + (c.toNat - 48)) r

def isDig (c : UInt8) : Prop := 48 ≤ c.toNat ∧ c.toNat ≤ 57

theorem dval_ge : ∀ (l : List UInt8) (acc : Nat), acc ≤ dval acc l
  | [], acc => Nat.le_refl _
  | c :: r, acc => Nat.le_trans (by omega) (dval_ge r (acc * 10 + (c.toNat - 48)))

theorem dval_snoc : ∀ (l : List UInt8) (acc : Nat) (c : UInt8), dval acc (l ++ [c]) = dval acc l * 10 + (c.toNat - 48)
  | [], acc, c => rfl
  | d :: r, acc, c => dval_snoc r (acc * 10 + (d.toNat - 48)) c

theorem parse_digits : ∀ (l : List UInt8) (acc : Nat), (∀ c ∈ l, isDig c) → dval acc l ≤ 1000000000000000 → Lib.parseUintM (2 ^ 64 - 1) acc l = .ok (dval acc l)
  | [], acc, _, _ => rfl
  | c :: r, acc, h, hle => by
    have hc := h c (by simp)
    have hg := dval_ge r (acc * 10 + (c.toNat - 48))
    have hle' : dval (acc * 10 + (c.toNat - 48)) r ≤ 1000000000000000 := hle
    simp only [Lib.parseUintM]
    rw [if_pos (show 48 ≤ c.toNat ∧ c.toNat ≤ 57 from hc), if_neg (by omega), if_neg (by omega)]
    exact parse_digits r _ (fun d hd => h d (by simp [hd])) hle'

theorem digit_byte (j : Nat) (h : j < 10) : isDig (UInt8.ofNat (48 + j)) ∧ (UInt8.ofNat (48 + j)).toNat - 48 = j := by
  unfold isDig; rw [digit_nat j h]; omega

theorem decDigits_spec (u : Nat) : (∀ c ∈ Lib.decDigits u, isDig c) ∧ dval 0 (Lib.decDigits u) = u ∧ Lib.decDigits u ≠ [] := by
  induction u using Nat.strongRecOn with
  | _ u ih =>
    by_cases h : u < 10
    · rw [Lib.decDigits, dif_pos h]
      have := digit_byte u h
      refine ⟨fun c hc => ?_, ?_, by simp⟩
      · rw [List.mem_singleton.1 hc]; exact this.1
      · show 0 * 10 + _ = _
        rw [this.2]; omega
    · rw [Lib.decDigits, dif_neg h]
      obtain ⟨h1, h2, _⟩ := ih (u / 10) (by omega)
      have := digit_byte (u % 10) (Nat.mod_lt _ (by decide))
      refine ⟨fun c hc => ?_, ?_, by simp⟩
      · rcases List.mem_append.1 hc with hc | hc
        · exact h1 c hc
        · rw [List.mem_singleton.1 hc]; exact this.1
      · rw [dval_snoc, h2, this.2]; omega

/-- A numeral reads as its number. -/
theorem parse_itoa (n : Int) (h0 : -1000000000000000 ≤ n) (h1 : n ≤ 1000000000000000) : Lib.parseIntB 64 (Lib.itoa n) = .ok n := by
  have hp : Lib.parseUintB 64 (Lib.decDigits n.natAbs) = .ok n.natAbs := by
    obtain ⟨d1, d2, d3⟩ := decDigits_spec n.natAbs
    unfold Lib.parseUintB
    rw [if_neg d3, parse_digits _ 0 d1 (by rw [d2]; omega), d2]
  have h63 : (2 : Nat) ^ (64 - 1) = 9223372036854775808 := by decide
  unfold Lib.itoa
  by_cases hn : n < 0
  · rw [if_pos hn]
    simp only [Lib.parseIntB]
    rw [if_pos (by decide), hp]
    simp only [h63]
    rw [if_neg (by simp), if_neg (by omega), if_pos (by decide)]
    congr 1; omega
  · rw [if_neg hn, show n.toNat = n.natAbs by omega]
    obtain ⟨d1, d2, d3⟩ := decDigits_spec n.natAbs
    cases hl : Lib.decDigits n.natAbs with
    | nil => exact absurd hl d3
    | cons c r =>
      have hc := d1 c (by rw [hl]; simp)
      unfold isDig at hc
      rw [hl] at hp
      simp only [Lib.parseIntB]
      rw [if_neg (by omega), hp]
      simp only [h63]
      rw [if_neg (by omega), if_neg (by omega), if_neg (by omega)]
      congr 1; omega

/-- The numeral's text. -/
def decS (n : Int) : ByteArray := ⟨(Lib.itoa n).toArray⟩

theorem decS_list (n : Int) : (decS n).data.toList = Lib.itoa n := rfl

theorem decS_inj {n m : Int} (h0 : -1000000000000000 ≤ n) (h1 : n ≤ 1000000000000000) (k0 : -1000000000000000 ≤ m) (k1 : m ≤ 1000000000000000) (h : decS n = decS m) : n = m := by
  have e : Lib.itoa n = Lib.itoa m := by rw [← decS_list, h, decS_list]
  have a := parse_itoa n h0 h1
  rw [e, parse_itoa m k0 k1] at a
  injection a with a
  exact a.symm

open Classical in
/-- The number that a text is the numeral of, if it is in range. -/
noncomputable def readV (s : ByteArray) : Option Int := if h : ∃ n : Int, -1000000000000000 ≤ n ∧ n ≤ 1000000000000000 ∧ decS n = s then some h.choose else none

theorem readV_some {s : ByteArray} {n : Int} (h0 : -1000000000000000 ≤ n) (h1 : n ≤ 1000000000000000) (h : decS n = s) : readV s = some n := by
  have hex : ∃ n : Int, -1000000000000000 ≤ n ∧ n ≤ 1000000000000000 ∧ decS n = s := ⟨n, h0, h1, h⟩
  unfold readV
  rw [dif_pos hex]
  obtain ⟨k0, k1, k⟩ := hex.choose_spec
  rw [decS_inj k0 k1 h0 h1 (k.trans h.symm)]

theorem readV_none {s : ByteArray} (h : ∀ n : Int, -1000000000000000 ≤ n → n ≤ 1000000000000000 → decS n ≠ s) : readV s = none := by
  unfold readV
  rw [dif_neg]
  rintro ⟨n, h0, h1, hn⟩
  exact h n h0 h1 hn

theorem readV_inv {s : ByteArray} {n : Int} (h : readV s = some n) : -1000000000000000 ≤ n ∧ n ≤ 1000000000000000 ∧ decS n = s := by
  unfold readV at h
  split at h
  · rename_i hex
    cases h
    exact hex.choose_spec
  · cases h

/-! ### The reference's reading -/

/-- What the digits among bytes spell. -/
def cval (acc : Nat) : List UInt8 → Nat
  | [] => acc
  | c :: r => cval (if 48 ≤ c.toNat ∧ c.toNat ≤ 57 then acc * 10 + (c.toNat - 48) else acc) r

theorem cval_digits : ∀ (l : List UInt8) (acc : Nat), (∀ c ∈ l, isDig c) → cval acc l = dval acc l
  | [], _, _ => rfl
  | c :: r, acc, h => by
    have hc := h c (by simp)
    have hc' : 48 ≤ c.toNat ∧ c.toNat ≤ 57 := hc
    have e : cval acc (c :: r) = cval (acc * 10 + (c.toNat - 48)) r := congrArg (fun a => cval a r) (if_pos hc')
    rw [e]
    exact cval_digits r (acc * 10 + (c.toNat - 48)) (fun d hd => h d (List.mem_cons_of_mem _ hd))

theorem cval_snoc : ∀ (l : List UInt8) (acc : Nat) (c : UInt8), cval acc (l ++ [c]) = (if 48 ≤ c.toNat ∧ c.toNat ≤ 57 then cval acc l * 10 + (c.toNat - 48) else cval acc l)
  | [], _, _ => rfl
  | d :: r, acc, c => cval_snoc r _ c

theorem cval_lt : ∀ (l : List UInt8) (acc k : Nat), acc < 10 ^ k → cval acc l < 10 ^ (k + l.length)
  | [], acc, k, h => h
  | c :: r, acc, k, h => by
    simp only [cval, List.length_cons]
    have h2 : (if 48 ≤ c.toNat ∧ c.toNat ≤ 57 then acc * 10 + (c.toNat - 48) else acc) < 10 ^ (k + 1) := by
      rw [Nat.pow_succ]; split <;> omega
    have := cval_lt r _ (k + 1) h2
    rw [show k + (r.length + 1) = k + 1 + r.length by omega]
    exact this

/-- The number that the reference tries. -/
def tryV (s : ByteArray) : Int := if s.data.toList.head? = some 45 then -(cval 0 s.data.toList : Int) else (cval 0 s.data.toList : Int)

theorem tryV_dec (n : Int) : tryV (decS n) = n := by
  obtain ⟨d1, d2, d3⟩ := decDigits_spec n.natAbs
  unfold tryV
  rw [decS_list]
  unfold Lib.itoa
  by_cases hn : n < 0
  · rw [if_pos hn, if_pos (show (45 :: Lib.decDigits n.natAbs).head? = some 45 from rfl)]
    have e : cval 0 (45 :: Lib.decDigits n.natAbs) = cval 0 (Lib.decDigits n.natAbs) := rfl
    rw [e, cval_digits _ 0 d1, d2]; omega
  · rw [if_neg hn, show n.toNat = n.natAbs by omega]
    cases hl : Lib.decDigits n.natAbs with
    | nil => exact absurd hl d3
    | cons c r =>
      have hc := d1 c (by rw [hl]; simp)
      unfold isDig at hc
      rw [if_neg (by
        simp only [List.head?_cons, Option.some.injEq]
        intro h; rw [h] at hc; exact absurd hc.1 (by decide)), ← hl, cval_digits _ 0 d1, d2]; omega

theorem nDigits_le {u : Nat} (h : u ≤ 1000000000000000) : Lib.nDigits u ≤ 16 := by
  rcases Nat.lt_or_ge 16 (Lib.nDigits u) with h' | h'
  · exfalso
    rw [← Lib.decDigits_length] at h'
    obtain ⟨d1, d2, d3⟩ := decDigits_spec u
    have key : ∀ k v : Nat, v < 10 ^ (k + 1) → Lib.nDigits v ≤ k + 1 := by
      intro k
      induction k with
      | zero => intro v hv; rw [Lib.nDigits_small (by omega)]; exact Nat.le_refl _
      | succ k ih =>
        intro v hv
        by_cases h10 : v < 10
        · rw [Lib.nDigits_small h10]; omega
        · rw [Lib.nDigits_big h10]
          have := ih (v / 10) (by rw [Nat.pow_succ] at hv; omega)
          omega
    have := key 15 u (Nat.lt_of_le_of_lt h (by decide))
    rw [Lib.decDigits_length] at h'
    omega
  · exact h'

theorem decS_size {n : Int} (h0 : -1000000000000000 ≤ n) (h1 : n ≤ 1000000000000000) : 1 ≤ (decS n).size ∧ (decS n).size ≤ 17 := by
  have e : (decS n).size = (Lib.itoa n).length := by simp [decS, ByteArray.size]
  have h2 := nDigits_le (u := n.natAbs) (by omega)
  have h3 := Lib.nDigits_pos n.natAbs
  rw [e]
  unfold Lib.itoa
  by_cases hn : n < 0
  · rw [if_pos hn, List.length_cons, Lib.decDigits_length]; omega
  · rw [if_neg hn, Lib.decDigits_length, show n.toNat = n.natAbs by omega]; omega

/-- How the reference ends. -/
theorem read_end (k : Nat) (hk : 50 ≤ k) (s : ByteArray) (x : Int) (h0 : -9223372036854775808 ≤ x) (h1 : x ≤ 9223372036854775807) :
    spec_l01Value.j2 (k + 1) s x = some (if -1000000000000000 ≤ x ∧ x ≤ 1000000000000000 ∧ decS x = s then (x, true) else (0, false)) := by
  simp only [spec_l01Value.j2, spec_l00In.f]
  have hd := dec_itoa k hk x h0 h1
  by_cases a : -1000000000000000 ≤ x
  · rw [if_pos (show x ≥ -1000000000000000 from a)]
    by_cases b : x ≤ 1000000000000000
    · simp only [Option.bind_some, decide_eq_true b, if_true]
      rw [hd]
      simp only [Option.bind_some]
      by_cases c : decS x = s
      · have hP : -1000000000000000 ≤ x ∧ x ≤ 1000000000000000 ∧ decS x = s := ⟨a, b, c⟩
        have hQ : (decS x).toList = s.toList := by rw [c]
        rw [if_pos hP]
        exact if_pos hQ
      · have hP : ¬ (-1000000000000000 ≤ x ∧ x ≤ 1000000000000000 ∧ decS x = s) := fun h => c h.2.2
        rw [if_neg hP]
        refine if_neg (c := (decS x).toList = s.toList) ?_
        intro h
        apply c
        have e : (decS x).data.toList = s.data.toList := by rw [← ByteArray.toList_eq, ← ByteArray.toList_eq]; exact h
        exact ByteArray.ext (Array.toList_inj.1 e)
    · rw [decide_eq_false b, if_neg (fun h => b h.2.1)]; rfl
  · rw [if_neg (show ¬ x ≥ -1000000000000000 from a), if_neg (fun h => a h.1)]; rfl

theorem bt_get (s : ByteArray) (i : Nat) (h : i < s.data.toList.length) : bt s (i : Int) = ((s.data.toList[i]).toNat : Int) := by
  have hi : i < s.size := by rw [data_length] at h; exact h
  have := bt_at s (i : Int) hi
  rw [← this]
  rfl

theorem read_loop (s : ByteArray) (hs : s.size ≤ 17) (hs1 : 1 ≤ s.size) (d : Nat) : ∀ (k i : Nat), i ≤ s.size → s.size - i = d → d + 52 ≤ k →
    spec_l01Value.l0 k s (cval 0 (s.data.toList.take i) : Int) (i : Int) = some (if -1000000000000000 ≤ tryV s ∧ tryV s ≤ 1000000000000000 ∧ decS (tryV s) = s then (tryV s, true) else (0, false)) := by
  have hsz : s.data.toList.length = s.size := data_length s
  have hp : (10 : Nat) ^ 17 = 100000000000000000 := by decide
  have hlt : ∀ i, i ≤ s.size → cval 0 (s.data.toList.take i) < 100000000000000000 := by
    intro i hi
    have h1 := cval_lt (s.data.toList.take i) 0 0 (by decide)
    have h2 : (10 : Nat) ^ (0 + (s.data.toList.take i).length) ≤ 10 ^ 17 := Nat.pow_le_pow_right (by decide) (by rw [List.length_take]; omega)
    omega
  induction d with
  | zero =>
    intro k i hi hd hk
    obtain ⟨k, rfl⟩ : ∃ j, k = j + 2 := ⟨k - 2, by omega⟩
    obtain rfl : i = s.size := by omega
    have h17 := hlt s.size (Nat.le_refl _)
    have htk : s.data.toList.take s.size = s.data.toList := List.take_of_length_le (by omega)
    rw [htk] at h17 ⊢
    simp only [spec_l01Value.l0]
    rw [if_neg (by omega), if_pos (by omega)]
    have hb := bt_get s 0 (by omega)
    have hh : s.data.toList.head? = some (s.data.toList[0]'(by omega)) := by
      rw [List.head?_eq_getElem?, List.getElem?_eq_getElem]
    by_cases h45 : bt s 0 = 45
    · have hc : s.data.toList[0]'(by omega) = 45 := by
        have : ((s.data.toList[0]'(by omega)).toNat : Int) = 45 := by rw [← hb]; exact h45
        apply UInt8.toNat_inj.1
        show _ = 45
        omega
      have ht : tryV s = -(cval 0 s.data.toList : Int) := by
        unfold tryV; rw [hh, hc]; exact if_pos rfl
      rw [if_pos h45, ht, wrap_id (x := -(cval 0 s.data.toList : Int)) (by omega) (by omega)]
      exact read_end k (by omega) s _ (by omega) (by omega)
    · have ht : tryV s = (cval 0 s.data.toList : Int) := by
        unfold tryV; rw [hh]
        refine if_neg ?_
        intro h
        apply h45
        have hb' : bt s 0 = ((s.data.toList[0]'(by omega)).toNat : Int) := hb
        rw [hb', Option.some.inj h]; rfl
      rw [if_neg h45, ht]
      exact read_end k (by omega) s _ (by omega) (by omega)
  | succ d ih =>
    intro k i hi hd hk
    obtain ⟨k, rfl⟩ : ∃ j, k = j + 1 := ⟨k - 1, by omega⟩
    have hil : i < s.data.toList.length := by omega
    have hb := bt_get s i hil
    have hi17 := hlt i hi
    have hi17' := hlt (i + 1) (by omega)
    have hsn : cval 0 (s.data.toList.take (i + 1)) = (if 48 ≤ (s.data.toList[i]).toNat ∧ (s.data.toList[i]).toNat ≤ 57 then cval 0 (s.data.toList.take i) * 10 + ((s.data.toList[i]).toNat - 48) else cval 0 (s.data.toList.take i)) := by
      rw [List.take_succ_eq_append_getElem hil, cval_snoc]
    have h256 := (s.data.toList[i]).toNat_lt
    have hrec := ih k (i + 1) (by omega) (by omega) (by omega)
    simp only [spec_l01Value.l0]
    rw [if_pos (by omega), if_pos (by omega), hb, wrap_id (x := (i : Int) + 1) (by omega) (by omega), show (i : Int) + 1 = ((i + 1 : Nat) : Int) by omega]
    rw [← hrec, hsn]
    rw [hsn] at hi17'
    generalize (s.data.toList[i]).toNat = c at *
    by_cases h1 : 48 ≤ c
    · by_cases h2 : c ≤ 57
      · have h12 : 48 ≤ c ∧ c ≤ 57 := ⟨h1, h2⟩
        rw [if_pos h12] at hi17'
        rw [if_pos h12, if_pos (show (c : Int) ≥ 48 by omega), if_pos (show (c : Int) ≤ 57 by omega), wrap_id (x := 10 * _) (by omega) (by omega), wrap_id (x := 10 * _ + _) (by omega) (by omega)]
        congr 1
        omega
      · have h12 : ¬ (48 ≤ c ∧ c ≤ 57) := fun h => h2 h.2
        rw [if_neg h12, if_pos (show (c : Int) ≥ 48 by omega), if_neg (show ¬ (c : Int) ≤ 57 by omega)]
    · have h12 : ¬ (48 ≤ c ∧ c ≤ 57) := fun h => h1 h.1
      rw [if_neg h12, if_neg (show ¬ (c : Int) ≥ 48 by omega)]

/-- The reference's reading of a decimal text. -/
theorem spec_read (s : ByteArray) : spec_l01Value.f 100 s = some ((readV s).getD 0, (readV s).isSome) := by
  by_cases hlen : 1 ≤ s.size ∧ s.size ≤ 17
  · have h := read_loop s hlen.2 hlen.1 s.size 98 0 (by omega) (by omega) (by omega)
    unfold spec_l01Value.f
    rw [if_neg (by omega), decide_eq_false (by omega)]
    have e1 : spec_l01Value.j0 100 s false = spec_l01Value.l0 99 s 0 0 := by
      show spec_l01Value.j0 (99 + 1) s false = _
      simp only [spec_l01Value.j0]
      rw [if_neg (by decide)]
    have h' := read_loop s hlen.2 hlen.1 s.size 99 0 (by omega) (by omega) (by omega)
    have e2 : spec_l01Value.l0 99 s ((cval 0 (s.data.toList.take 0) : Nat) : Int) ((0 : Nat) : Int) = spec_l01Value.l0 99 s 0 0 := rfl
    rw [e1, ← e2, h']
    by_cases hx : -1000000000000000 ≤ tryV s ∧ tryV s ≤ 1000000000000000 ∧ decS (tryV s) = s
    · rw [if_pos hx, readV_some hx.1 hx.2.1 hx.2.2]; rfl
    · rw [if_neg hx, readV_none]
      · rfl
      · intro n h0 h1 hn
        apply hx
        have e : tryV s = n := by rw [← hn]; exact tryV_dec n
        rw [e]; exact ⟨h0, h1, hn⟩
  · have hnone : readV s = none := readV_none (fun n h0 h1 hn => hlen (by rw [← hn]; exact decS_size h0 h1))
    have e0 : ∀ k, spec_l01Value.j0 (k + 1) s true = some (0, false) := fun k => by simp only [spec_l01Value.j0]; rw [if_pos trivial]
    rw [hnone]
    unfold spec_l01Value.f
    by_cases h1 : (s.size : Int) < 1
    · rw [if_pos h1]; exact e0 99
    · rw [if_neg h1, decide_eq_true (by omega)]; exact e0 99
end Go.Proofs.YtjfoimbeflobkabDoor
namespace Go.Proofs.YtjfoimbeflobkabDoor
open Go.RowKit Go.Proofs.YtjfoimbeflobkabDoorW.PrintWords
set_option linter.unusedVariables false

theorem wrap_fit {x : Int} (h0 : -9223372036854775808 ≤ x) (h1 : x ≤ 9223372036854775807) : wrap64 x = x := by unfold wrap64; omega

theorem rd_get (l : List Int) (i : Nat) (h : i < l.length) : rd l (i : Int) = l[i] := by
  unfold rd
  rw [Int.toNat_natCast, List.getD_eq_getElem?_getD, List.getElem?_eq_getElem h]; rfl

theorem eqInt_loop (l : List Int) (hl : l.length ≤ 1048576) (d : Nat) : ∀ (k i : Nat), i ≤ l.length → l.length - i = d → d < k → PeqInt64S.laws_eqInt64S.l0 k l l (i : Int) = some true := by
  induction d with
  | zero =>
    intro k i hi hd hk
    obtain ⟨k, rfl⟩ : ∃ j, k = j + 1 := ⟨k - 1, by omega⟩
    simp only [PeqInt64S.laws_eqInt64S.l0]
    rw [if_neg (by omega)]
  | succ d ih =>
    intro k i hi hd hk
    obtain ⟨k, rfl⟩ : ∃ j, k = j + 1 := ⟨k - 1, by omega⟩
    simp only [PeqInt64S.laws_eqInt64S.l0]
    rw [if_pos (by omega), if_pos (by omega), if_pos (by omega), if_pos trivial, wrap_fit (by omega) (by omega), show (i : Int) + 1 = ((i + 1 : Nat) : Int) by omega]
    exact ih k (i + 1) (by omega) (by omega) (by omega)

theorem eqInt_f (l : List Int) (hl : l.length ≤ 1048576) : PeqInt64S.laws_eqInt64S.f (l.length + 1) l l = some true := by
  unfold PeqInt64S.laws_eqInt64S.f
  rw [if_pos rfl]
  exact eqInt_loop l hl l.length _ 0 (by omega) (by omega) (by omega)

theorem laws_eqInt64S (A B : Option Addr) (cap cap' : Nat) (l : List Int) (hl : l.length ≤ 1048576) (w : World) (hA : (Kd.int .i64).C w A l.length l) (hc : l.length ≤ cap) (hB : (Kd.int .i64).C w B l.length l) (hc' : l.length ≤ cap') :
    Calls Tryd.prog 10 #[.slice A l.length cap, .slice B l.length cap'] w fun e w' => e = .returned (.bool true) ∧ ∃ m, w' = w.drewN m := by
  refine (PeqInt64S.laws_eqInt64S.calls (l.length + 1) A cap l B cap' l true w hA hc hB hc' (eqInt_f l hl)).mono ?_
  rintro e w' ⟨rfl, hd⟩
  obtain ⟨m, rfl⟩ := hd
  exact ⟨rfl, m, rfl⟩
end Go.Proofs.YtjfoimbeflobkabDoor
