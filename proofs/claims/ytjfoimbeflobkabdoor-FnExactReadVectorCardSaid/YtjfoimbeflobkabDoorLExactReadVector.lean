/-
  Proved: the tied card of laws.FnExactReadVector: for every input the law returns true, and each argument reads afterwards as it read before. The package-level variables that the row lists start as the program's text lays them (the card ties them); no other condition.
-/
import Derived.Test.YtjfoimbeflobkabDoorRows
import Derived.Test.YtjfoimbeflobkabDoorTie
import Derived.Test.YtjfoimbeflobkabDoorCards
import Derived.Test.YtjfoimbeflobkabDoorVread
import Derived.WalkKit
import Derived.ProofKit
import Derived.OpenShut
import Derived.ShutString
import Derived.ChangeOld
import Derived.Below
import Derived.LaidMore
import Derived.Stop.Joined
import Derived.Stop.LaidErr
import Derived.SevenTiedAt
import Derived.Lay
namespace Go.Proofs.YtjfoimbeflobkabDoor.lFnExactReadVector
open Go.ChangeShapes Go.WideShapes Go.ChangeAt Go.RowKit
open Go.ChangeMaps (open_string shut_string)
set_option linter.unusedVariables false

theorem own : ownKnob Tryd.prog.godebug = none := by kernel_rfl
theorem laidOut : laidOutB Tryd.prog = true := by kernel_rfl

set_option maxRecDepth 100000 in
theorem lifted (os : Os) (started : os.Started) (H : Type) (enc : TypeId × Value → H) :
    ReturnsInHanded {} Tryd.checked os 7 .any (fun w args => (Rows.fnExactReadVectorSpec.pre enc Tryd.prog Tryd.f7 Rows.fnExactReadVectorRow.domain false w args ∧ laidMetH Tryd.prog Rows.fnExactReadVectorRow.laid w) ∧ sizedMet enc Tryd.prog Tryd.f7 (OpenSpec.ofChange Rows.fnExactReadVectorSpec) false w args)
      (Rows.fnExactReadVectorSpec.post enc Tryd.prog Tryd.f7 false true false false) := by
  refine returnsInHanded_shaped_and (C := Tryd.checked) (X := fun w _ => laidMetH Tryd.prog Rows.fnExactReadVectorRow.laid w) (fun _ _ _ hh h => h.of_heap hh) own started (by kernel_rfl) Tryd.func7
    (ChangeSpec.witness_shaped (enc := enc) (C := Tryd.checked) (os := os) (X := fun w _ => laidMetH Tryd.prog Rows.fnExactReadVectorRow.laid w) false (World.laidAll Tryd.prog os Rows.fnExactReadVectorRow.laid) #[.string ByteArray.empty] 8 (World.laidAll_os _ _ _)
      (World.shaped_of_ZipB (by kernel_rfl) (by kernel_rfl)) (by kernel_rfl) (by kernel_rfl) (by kernel_rfl) (by rw [MakeChecks.laidMetH_plain _ _ _ (by kernel_rfl)]; exact laidMet_laidAll _ (by kernel_rfl) (by kernel_rfl))) ?_
  intro W base args ds gs before hval0 hW hcnd hsz0 hL hSh
  have hval : ∀ (j : Nat) t v, Tryd.f7.params[j]? = some t → args[j]? = some v → Value.okWide Tryd.prog W .any base t v := hval0
  have hW' := hW
  obtain ⟨p, q, hA0, hV, rfl, hfz, hnd⟩ := hW
  have hA : DataW.TrodAll enc Tryd.prog W 0 (fun _ => true) true Tryd.f7.params.toList args.toList ds p := hA0
  rw [Tryd.params7] at hA hval
  obtain ⟨v0, vs0, d0, ds0, p0, q0, hargs, rfl, rfl, h0, r0⟩ := trodAll_cons hA
  obtain ⟨rfl, rfl, rfl⟩ := trodAll_nil r0
  obtain rfl : args = #[v0] := by cases args; simp_all
  obtain ⟨rfl, rfl⟩ := trodVars_none hV
  have k0 := h0
  have lt0 : ∀ x ∈ p0, x.block < W.heap.size := by obtain ⟨m, hm⟩ := k0; exact DataW.trod_lt m _ _ _ hm
  obtain ⟨a0, w0, rfl⟩ := op_string Tryd.underlying9 (hval 0 9 v0 rfl rfl) h0
  rw [MakeChecks.laidMetH_plain _ _ _ (by kernel_rfl)] at hL
  have eZ : Rows.fnExactReadVectorRow.laid = Rows.fnExactReadVectorRow.laid.getD 0 (db64Name, .nil) :: (db64Name, Lib.tabData .u8 zTab) :: Rows.fnExactReadVectorRow.laid.drop 2 := by kernel_rfl
  have hZ := hL
  rw [eZ] at hZ
  have eS : Rows.fnExactReadVectorRow.laid = Rows.fnExactReadVectorRow.laid.getD 0 ("", .nil) :: Rows.fnExactReadVectorRow.laid.getD 1 ("", .nil) :: Rows.fnExactReadVectorRow.laid.getD 2 ("", .nil) :: Rows.fnExactReadVectorRow.laid.getD 3 ("", .nil) :: ("strconv.ErrRange", Rows.laid_strconv_ErrRange) :: ("strconv.ErrSyntax", Rows.laid_strconv_ErrSyntax) :: Rows.fnExactReadVectorRow.laid.drop 6 := by kernel_rfl
  have hS := hL
  rw [eS] at hS
  replace hS := laidMet.tail (laidMet.tail (laidMet.tail (laidMet.tail (hS))))
  clear hA0 hval0
  refine (fnExactReadVector_walk W a0 w0 (TabZ.of hZ) (Errs.of hS) (MaxSome.of hSh)).mono fun e W' ⟨he, bel⟩ => ?_
  subst he
  exact ⟨_, rfl, _, _, _, [], _, [], hW', trodAll_mk1 (shut_bool Tryd.underlying4 _), (trodAll_cons_mk (Below.trod laidOut (by kernel_rfl) (of_decide_eq_true (by kernel_rfl)) k0 bel lt0) trodAll_mk0), rfl, bel.frame _, fun h => by cases h⟩

theorem over : Rows.fnExactReadVectorRow.holds Tryd.pinned (OpenSpec.ofChange Rows.fnExactReadVectorSpec) :=
  OpenClaim.holds_of_wide 7 Tryd.f7 rfl rfl rfl rfl rfl rfl rfl ⟨rfl, rfl, rfl, rfl, rfl⟩ rfl rfl rfl rfl rfl (by kernel_rfl) Tryd.func7 (by kernel_rfl)
    (of_decide_eq_true (by kernel_rfl)) (by unfold Func.isWrapper; first | (rw [if_pos (by decide +kernel)]; kernel_rfl) | (rw [if_neg (by decide +kernel)]; exact ⟨rfl, rfl⟩))
    (fun os started H enc _ => lifted os started H enc)

theorem named_fn : Tryd.prog.funcNamed Rows.fnExactReadVectorRow.func = some 7 := by kernel_rfl

/-- The statement: the tied card. -/
theorem proved : Rows.FnExactReadVectorCardSaid :=
  Claim7.holds_tied_plain_at .later [] Rows.fnExactReadVectorCard.laidKinds true Rows.fnExactReadVectorCard.stood.harness Rows.fnExactReadVectorCard.stood.looks
    over (fun _ h => by cases h) (by kernel_rfl) (fun _ h => by cases h) fnExactReadVector_row_tie rfl ⟨rfl, rfl⟩ (by kernel_rfl) rfl
    (fun f fn hf hfn => by
      obtain rfl : f = 7 := Option.some.inj (named_fn.symm.trans hf) |>.symm
      obtain rfl : fn = Tryd.f7 := (Option.some.inj (Tryd.func7.symm.trans hfn)).symm
      exact ⟨by kernel_rfl, fun j t ht => by
        rw [Tryd.params7] at ht
        have hm : t ∈ [9] := by simpa using Array.mem_of_getElem? ht
        have hall : ([9].all fun u => !Tryd.prog.wantsStandIn u) = true := by kernel_rfl
        exact (show Tryd.prog.wantsStandIn t = false by simpa using List.all_eq_true.1 hall t hm)⟩)
    (by kernel_rfl)
#print axioms proved
end Go.Proofs.YtjfoimbeflobkabDoor.lFnExactReadVector
