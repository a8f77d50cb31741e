/- The row of FnExactHiddenText: whatever comes in, the call returns true and leaves its arguments as they were. No condition. -/
import Derived.LaidMore
import Derived.SevenTiedAt
import Derived.Test.YtfpbpiodoajpiaaDoorCards
import Derived.Test.YtfpbpiodoajpiaaDoorTie
import Derived.Test.YtfpbpiodoajpiaaDoorRows
import Derived.Test.YtfpbpiodoajpiaaDoorQFnExactHiddenTextx3
import Derived.Test.YtfpbpiodoajpiaaDoorPureFnExactHiddenText
import Derived.Test.YtfpbpiodoajpiaaDoorKit
import Derived.WalkKit
import Derived.ProofKit
import Derived.OpenShut
import Derived.ShutString
import Derived.ChangeOld
import Derived.Below
import Derived.Carry
import Derived.SizedLaws
namespace Go.Proofs.YtfpbpiodoajpiaaDoor.fnExactHiddenText
open Go.ChangeShapes Go.WideShapes Go.ChangeAt Go.RowKit Go.Proofs.YtfpbpiodoajpiaaDoor.Kit
open Go.ChangeMaps (open_string shut_string)
set_option linter.unusedVariables false
theorem own : ownKnob Tryd.prog.godebug = none := by kernel_rfl
theorem laidOut : laidOutB Tryd.prog = true := by kernel_rfl
theorem cells25 : Tryd.prog.cellsOf 25 = 6 := by kernel_rfl
set_option maxRecDepth 100000 in
theorem door_met (os : Os) (args : Array Value) : laidMetH Tryd.prog Rows.fnExactHiddenTextRow.laid ((World.doorLaid Tryd.prog 400 os).forCall (fun _ _ => 0) ⟨#[], args, []⟩).memory :=
  laidMetH_of_parts3 (fuel := 8) (laidMet_of_run' 8 (by kernel_rfl) (by kernel_rfl)) (by kernel_rfl) (by kernel_rfl)
set_option maxRecDepth 100000 in
theorem lifted (os : Os) (started : os.Started) (H : Type) (enc : TypeId × Value → H) :
    ReturnsInHanded {} Tryd.checked os 3 .any (fun w args => (Rows.fnExactHiddenTextSpec.pre enc Tryd.prog Tryd.f3 [] false w args ∧ laidMetH Tryd.prog Rows.fnExactHiddenTextRow.laid w) ∧ sizedMet enc Tryd.prog Tryd.f3 (OpenSpec.ofChange Rows.fnExactHiddenTextSpec) false w args) (Rows.fnExactHiddenTextSpec.post enc Tryd.prog Tryd.f3 false true false false) := by
  refine returnsInHanded_of_change_and (C := Tryd.checked) (X := (fun w _ => laidMetH Tryd.prog Rows.fnExactHiddenTextRow.laid w)) (fun _ _ _ hh h => h.of_heap hh) own started (by kernel_rfl) Tryd.func3
    (ChangeSpec.witness_shaped (enc := enc) (C := Tryd.checked) (os := os) (X := (fun w _ => laidMetH Tryd.prog Rows.fnExactHiddenTextRow.laid w)) false (World.doorLaid Tryd.prog 400 os) #[.agg #[.int .i64 0, .int .i64 0, .int .i64 0, .int .i64 0, .int .i64 0, .int .i64 0]] 8 rfl (World.shaped_of_RefB (by kernel_rfl) (by kernel_rfl)) (by kernel_rfl) (by kernel_rfl) (by kernel_rfl) (door_met os _)) ?_
  intro W base args ds gs before hval0 hW hcnd hsz0 hL _
  have hsz : (DataW.weightsEach Tryd.prog (Tryd.f3.params.toList ++ Rows.fnExactHiddenTextSpec.plain.varTypes Tryd.prog) (ds ++ gs)).all (· ≤ reachBytes) = true := hsz0
  have hval : ∀ (j : Nat) t v, Tryd.f3.params[j]? = some t → args[j]? = some v → Value.okWide Tryd.prog W .any base t v := hval0
  have hW' := hW
  obtain ⟨p, q, hA0, hV, rfl, hfz, hnd⟩ := hW
  have hA : DataW.TrodAll enc Tryd.prog W 0 (fun _ => true) true Tryd.f3.params.toList args.toList ds p := hA0
  rw [Tryd.params3] at hA hval hsz
  obtain ⟨v0, vs0, d0, ds0, p0, q0, hargs, rfl, rfl, h0, r0⟩ := trodAll_cons hA
  obtain ⟨rfl, rfl, rfl⟩ := trodAll_nil r0
  obtain rfl : args = #[v0] := by cases args; simp_all
  obtain ⟨rfl, rfl⟩ := trodVars_none hV
  have k0 := h0
  have lt0 : ∀ x ∈ p0, x.block < W.heap.size := by obtain ⟨m, hm⟩ := k0; exact DataW.trod_lt m _ _ _ hm
  obtain ⟨⟨l0⟩, rfl, hz0⟩ := okWide_struct Tryd.underlying25 (hval 0 25 v0 rfl rfl)
  obtain ⟨fu0, hf0⟩ := h0
  obtain ⟨_, _, g0_0⟩ := field_any Tryd.underlying25 hf0 0 rfl
  obtain ⟨_, _, g0_0_0⟩ := field_any Tryd.underlying23 g0_0 0 rfl
  obtain ⟨a0_0, e0_0, w0_0⟩ := int_get Tryd.underlying3 g0_0_0
  replace e0_0 : l0[0]? = some (.int .i64 a0_0) := sub_get (sub_get (e0_0))
  obtain ⟨_, _, g0_0_1⟩ := field_any Tryd.underlying23 g0_0 1 rfl
  obtain ⟨a0_1, e0_1, w0_1⟩ := int_get Tryd.underlying3 g0_0_1
  replace e0_1 : l0[1]? = some (.int .i64 a0_1) := sub_get (sub_get (e0_1))
  obtain ⟨_, _, g0_0_2⟩ := field_any Tryd.underlying23 g0_0 2 rfl
  obtain ⟨a0_2, e0_2, w0_2⟩ := int_get Tryd.underlying3 g0_0_2
  replace e0_2 : l0[2]? = some (.int .i64 a0_2) := sub_get (sub_get (e0_2))
  obtain ⟨_, _, g0_1⟩ := field_any Tryd.underlying25 hf0 1 rfl
  obtain ⟨a0_3, e0_3, w0_3⟩ := int_get Tryd.underlying3 g0_1
  replace e0_3 : l0[3]? = some (.int .i64 a0_3) := sub_get (e0_3)
  obtain ⟨_, _, g0_2⟩ := field_any Tryd.underlying25 hf0 2 rfl
  obtain ⟨a0_4, e0_4, w0_4⟩ := int_get Tryd.underlying3 g0_2
  replace e0_4 : l0[4]? = some (.int .i64 a0_4) := sub_get (e0_4)
  obtain ⟨_, _, g0_3⟩ := field_any Tryd.underlying25 hf0 3 rfl
  obtain ⟨a0_5, e0_5, w0_5⟩ := int_get Tryd.underlying3 g0_3
  replace e0_5 : l0[5]? = some (.int .i64 a0_5) := sub_get (e0_5)
  have hl0 : l0 = [.int .i64 a0_0, .int .i64 a0_1, .int .i64 a0_2, .int .i64 a0_3, .int .i64 a0_4, .int .i64 a0_5] := getl (hz0.trans cells25) (by
    intro i hi
    match i, hi with
    | 0, _ => exact e0_0
    | 1, _ => exact e0_1
    | 2, _ => exact e0_2
    | 3, _ => exact e0_3
    | 4, _ => exact e0_4
    | 5, _ => exact e0_5
    | n + 6, hi => exact absurd hi (by simp))
  subst hl0
  clear hA0 hval0 hsz0 hsz
  obtain ⟨k, hk⟩ := PureFnExactHiddenText.holds a0_0 a0_1 a0_2 a0_3 a0_4 a0_5 w0_0 w0_1 w0_2 w0_3 w0_4 w0_5
  refine (QFnExactHiddenText.laws_FnExactHiddenText.calls k a0_0 a0_1 a0_2 a0_3 a0_4 a0_5 true W hk).mono fun e W' ⟨he, bel0⟩ => ?_
  have bel : Below W.heap.size W W' := bel0
  subst he
  exact ⟨_, rfl, _, _, _, [], _, [], hW', trodAll_mk1 (shut_bool Tryd.underlying4 _), (trodAll_cons_mk (Below.trod laidOut (by kernel_rfl) (of_decide_eq_true (by kernel_rfl)) k0 bel lt0) trodAll_mk0), rfl, bel.frame _, fun h => by cases h⟩
theorem over : Rows.fnExactHiddenTextRow.holds Tryd.pinned (OpenSpec.ofChange Rows.fnExactHiddenTextSpec) :=
  OpenClaim.holds_of_wide 3 Tryd.f3 rfl rfl rfl rfl rfl rfl rfl ⟨rfl, rfl, rfl, rfl, rfl⟩ rfl rfl rfl rfl rfl (by kernel_rfl) Tryd.func3 (by kernel_rfl)
    (of_decide_eq_true (by kernel_rfl)) (by unfold Func.isWrapper; first | (rw [if_pos (by decide +kernel)]; kernel_rfl) | (rw [if_neg (by decide +kernel)]; exact ⟨rfl, rfl⟩))
    (fun os started H enc _ => lifted os started H enc)
end Go.Proofs.YtfpbpiodoajpiaaDoor.fnExactHiddenText
namespace Go.Proofs.YtfpbpiodoajpiaaDoor
/-- The row, under a short name, for the claim. -/
theorem fnExactHiddenText_holds : Rows.FnExactHiddenTextSaid := fnExactHiddenText.over
theorem fnExactHiddenText_card : Rows.FnExactHiddenTextCardSaid :=
  Claim7.holds_tied_plain_at .later [] [.data, .data, .data] true (true, "62113c93ea63e787edca1a6b98fc4a2c68fe62b2da08131ca620a409923ea910") true
    fnExactHiddenText_holds (fun _ h => by cases h) (by kernel_rfl) (fun _ h => by cases h) fnExactHiddenText_row_tie rfl ⟨rfl, rfl⟩ (by kernel_rfl) rfl
    (fun f fn hf hfn => by
      obtain rfl : f = 3 := Option.some.inj ((show Tryd.prog.funcNamed "loop.example/g01337/laws.FnExactHiddenText" = some 3 by kernel_rfl).symm.trans hf) |>.symm
      obtain rfl : fn = Tryd.f3 := (Option.some.inj (Tryd.func3.symm.trans hfn)).symm
      exact ⟨by kernel_rfl, fun j t ht => by
        rw [Tryd.params3] at ht
        have hm : t ∈ [25] := by simpa using Array.mem_of_getElem? ht
        have hall : ([25].all fun u => !Tryd.prog.wantsStandIn u) = true := by kernel_rfl
        exact (show Tryd.prog.wantsStandIn t = false by simpa using List.all_eq_true.1 hall t hm)⟩)
    (by kernel_rfl)
#print axioms fnExactHiddenText_card
end Go.Proofs.YtfpbpiodoajpiaaDoor
