/- The row of FnExactLikeliestSigns: whatever comes in, the call returns true and leaves its arguments as they were. No condition. -/
import Derived.Test.YtfpbpiodoajpiaaRows
import Derived.Test.YtfpbpiodoajpiaaQFnExactLikeliestSignsx6
import Derived.Test.YtfpbpiodoajpiaaPureFnExactLikeliestSigns
import Derived.Test.YtfpbpiodoajpiaaKit
import Derived.WalkKit
import Derived.ProofKit
import Derived.OpenShut
import Derived.ShutString
import Derived.ChangeOld
import Derived.Below
import Derived.Carry
import Derived.SizedLaws
namespace Go.Proofs.Ytfpbpiodoajpiaa.fnExactLikeliestSigns
open Go.ChangeShapes Go.WideShapes Go.ChangeAt Go.RowKit Go.Proofs.Ytfpbpiodoajpiaa.Kit
open Go.ChangeMaps (open_string shut_string)
set_option linter.unusedVariables false
theorem own : ownKnob Try.prog.godebug = none := by kernel_rfl
theorem laidOut : laidOutB Try.prog = true := by kernel_rfl
theorem cells25 : Try.prog.cellsOf 25 = 6 := by kernel_rfl
set_option maxRecDepth 100000 in
theorem lifted (os : Os) (started : os.Started) (H : Type) (enc : TypeId × Value → H) :
    ReturnsInHanded {} Try.checked os 5 .any (Rows.fnExactLikeliestSignsSpec.pre6 enc Try.prog Try.f5 Rows.fnExactLikeliestSignsRow.domain false) (Rows.fnExactLikeliestSignsSpec.post enc Try.prog Try.f5 false true false false) := by
  refine returnsInHanded_of_change_sized (C := Try.checked) own started (by kernel_rfl) Try.func5
    (ChangeSpec.witness6 (enc := enc) (C := Try.checked) false ⟨#[], #[.agg #[.int .i64 0, .int .i64 0, .int .i64 0, .int .i64 0, .int .i64 0, .int .i64 0], .int .i64 0], []⟩ 8 (by kernel_rfl) (by kernel_rfl) (by kernel_rfl) (by kernel_rfl)) ?_
  intro W base args ds gs before hval0 hW hcnd hsz0 _
  have hsz : (DataW.weightsEach Try.prog (Try.f5.params.toList ++ Rows.fnExactLikeliestSignsSpec.plain.varTypes Try.prog) (ds ++ gs)).all (· ≤ reachBytes) = true := hsz0
  have hval : ∀ (j : Nat) t v, Try.f5.params[j]? = some t → args[j]? = some v → Value.okWide Try.prog W .any base t v := hval0
  have hW' := hW
  obtain ⟨p, q, hA0, hV, rfl, hfz, hnd⟩ := hW
  have hA : DataW.TrodAll enc Try.prog W 0 (fun _ => true) true Try.f5.params.toList args.toList ds p := hA0
  rw [Try.params5] at hA hval hsz
  obtain ⟨v0, vs0, d0, ds0, p0, q0, hargs, rfl, rfl, h0, r0⟩ := trodAll_cons hA
  obtain ⟨v1, vs1, d1, ds1, p1, q1, rfl, rfl, rfl, h1, r1⟩ := trodAll_cons r0
  obtain ⟨rfl, rfl, rfl⟩ := trodAll_nil r1
  obtain rfl : args = #[v0, v1] := by cases args; simp_all
  obtain ⟨rfl, rfl⟩ := trodVars_none hV
  have k0 := h0
  have lt0 : ∀ x ∈ p0, x.block < W.heap.size := by obtain ⟨m, hm⟩ := k0; exact DataW.trod_lt m _ _ _ hm
  obtain ⟨⟨l0⟩, rfl, hz0⟩ := okWide_struct Try.underlying25 (hval 0 25 v0 rfl rfl)
  obtain ⟨fu0, hf0⟩ := h0
  obtain ⟨_, _, g0_0⟩ := field_any Try.underlying25 hf0 0 rfl
  obtain ⟨_, _, g0_0_0⟩ := field_any Try.underlying23 g0_0 0 rfl
  obtain ⟨a0_0, e0_0, w0_0⟩ := int_get Try.underlying3 g0_0_0
  replace e0_0 : l0[0]? = some (.int .i64 a0_0) := sub_get (sub_get (e0_0))
  obtain ⟨_, _, g0_0_1⟩ := field_any Try.underlying23 g0_0 1 rfl
  obtain ⟨a0_1, e0_1, w0_1⟩ := int_get Try.underlying3 g0_0_1
  replace e0_1 : l0[1]? = some (.int .i64 a0_1) := sub_get (sub_get (e0_1))
  obtain ⟨_, _, g0_0_2⟩ := field_any Try.underlying23 g0_0 2 rfl
  obtain ⟨a0_2, e0_2, w0_2⟩ := int_get Try.underlying3 g0_0_2
  replace e0_2 : l0[2]? = some (.int .i64 a0_2) := sub_get (sub_get (e0_2))
  obtain ⟨_, _, g0_1⟩ := field_any Try.underlying25 hf0 1 rfl
  obtain ⟨a0_3, e0_3, w0_3⟩ := int_get Try.underlying3 g0_1
  replace e0_3 : l0[3]? = some (.int .i64 a0_3) := sub_get (e0_3)
  obtain ⟨_, _, g0_2⟩ := field_any Try.underlying25 hf0 2 rfl
  obtain ⟨a0_4, e0_4, w0_4⟩ := int_get Try.underlying3 g0_2
  replace e0_4 : l0[4]? = some (.int .i64 a0_4) := sub_get (e0_4)
  obtain ⟨_, _, g0_3⟩ := field_any Try.underlying25 hf0 3 rfl
  obtain ⟨a0_5, e0_5, w0_5⟩ := int_get Try.underlying3 g0_3
  replace e0_5 : l0[5]? = some (.int .i64 a0_5) := sub_get (e0_5)
  have hl0 : l0 = [.int .i64 a0_0, .int .i64 a0_1, .int .i64 a0_2, .int .i64 a0_3, .int .i64 a0_4, .int .i64 a0_5] := getl (hz0.trans cells25) (by
    intro i hi
    match i, hi with
    | 0, _ => exact e0_0
    | 1, _ => exact e0_1
    | 2, _ => exact e0_2
    | 3, _ => exact e0_3
    | 4, _ => exact e0_4
    | 5, _ => exact e0_5
    | n + 6, hi => exact absurd hi (by simp))
  subst hl0
  obtain ⟨a1, rfl, rfl, rfl, w1⟩ := open_int Try.underlying3 (hval 1 3 v1 rfl rfl) h1
  clear hA0 hval0 hsz0 hsz
  obtain ⟨k, hk⟩ := PureFnExactLikeliestSigns.holds a0_0 a0_1 a0_2 a0_3 a0_4 a0_5 a1 w0_0 w0_1 w0_2 w0_3 w0_4 w0_5 w1
  refine (QFnExactLikeliestSigns.laws_FnExactLikeliestSigns.calls k a0_0 a0_1 a0_2 a0_3 a0_4 a0_5 a1 true W hk).mono fun e W' ⟨he, bel0⟩ => ?_
  have bel : Below W.heap.size W W' := bel0
  subst he
  exact ⟨_, rfl, _, _, _, [], _, [], hW', trodAll_mk1 (shut_bool Try.underlying4 _), (trodAll_cons_mk (Below.trod laidOut (by kernel_rfl) (of_decide_eq_true (by kernel_rfl)) k0 bel lt0) (trodAll_cons_mk (shut_int Try.underlying3 w1) trodAll_mk0)), rfl, bel.frame _, fun h => by cases h⟩
theorem over : Rows.fnExactLikeliestSignsRow.holds Try.pinned (OpenSpec.ofChange Rows.fnExactLikeliestSignsSpec) :=
  OpenClaim.holds_of_wide 5 Try.f5 rfl rfl rfl rfl rfl rfl rfl ⟨rfl, rfl, rfl, rfl, rfl⟩ rfl rfl rfl rfl rfl (by kernel_rfl) Try.func5 (by kernel_rfl)
    (of_decide_eq_true (by kernel_rfl)) (by unfold Func.isWrapper; first | (rw [if_pos (by decide +kernel)]; kernel_rfl) | (rw [if_neg (by decide +kernel)]; exact ⟨rfl, rfl⟩))
    (fun os started H enc _ => lifted os started H enc)
end Go.Proofs.Ytfpbpiodoajpiaa.fnExactLikeliestSigns
namespace Go.Proofs.Ytfpbpiodoajpiaa
/-- The row, under a short name, for the claim. -/
theorem fnExactLikeliestSigns_holds : Rows.FnExactLikeliestSignsSaid := fnExactLikeliestSigns.over
#print axioms fnExactLikeliestSigns_holds
end Go.Proofs.Ytfpbpiodoajpiaa
