/- The row of FnExactIsDesk: whatever comes in, the call returns true and leaves its arguments as they were. No condition. -/
import Derived.Test.YthiclneaehbhoaaRows
import Derived.Test.YthiclneaehbhoaaPFnExactIsDeskx1
import Derived.Test.YthiclneaehbhoaaPureFnExactIsDesk
import Derived.Test.YthiclneaehbhoaaKit
import Derived.WalkKit
import Derived.ProofKit
import Derived.OpenShut
import Derived.ShutString
import Derived.ChangeOld
import Derived.Below
import Derived.Carry
import Derived.SizedLaws
namespace Go.Proofs.Ythiclneaehbhoaa.fnExactIsDesk
open Go.ChangeShapes Go.WideShapes Go.ChangeAt Go.RowKit Go.Proofs.Ythiclneaehbhoaa.Kit
open Go.ChangeMaps (open_string shut_string)
set_option linter.unusedVariables false
theorem own : ownKnob Try.prog.godebug = none := by kernel_rfl
theorem laidOut : laidOutB Try.prog = true := by kernel_rfl
theorem cells60 : Try.prog.cellsOf 60 = 11 := by kernel_rfl
set_option maxRecDepth 100000 in
theorem lifted (os : Os) (started : os.Started) (H : Type) (enc : TypeId × Value → H) :
    ReturnsInHanded {} Try.checked os 11 .any (Rows.fnExactIsDeskSpec.pre6 enc Try.prog Try.f11 Rows.fnExactIsDeskRow.domain false) (Rows.fnExactIsDeskSpec.post enc Try.prog Try.f11 false true false false) := by
  refine returnsInHanded_of_change_sized (C := Try.checked) own started (by kernel_rfl) Try.func11
    (ChangeSpec.witness6 (enc := enc) (C := Try.checked) false ⟨#[], #[.agg #[.int .i64 0, .int .i64 0, .int .i64 0, .int .i64 0, .int .i64 0, .int .i64 0, .int .i64 0, .int .i64 0, .int .i64 0, .int .i64 0, .int .i64 0]], []⟩ 8 (by kernel_rfl) (by kernel_rfl) (by kernel_rfl) (by kernel_rfl)) ?_
  intro W base args ds gs before hval0 hW hcnd hsz0 _
  have hsz : (DataW.weightsEach Try.prog (Try.f11.params.toList ++ Rows.fnExactIsDeskSpec.plain.varTypes Try.prog) (ds ++ gs)).all (· ≤ reachBytes) = true := hsz0
  have hval : ∀ (j : Nat) t v, Try.f11.params[j]? = some t → args[j]? = some v → Value.okWide Try.prog W .any base t v := hval0
  have hW' := hW
  obtain ⟨p, q, hA0, hV, rfl, hfz, hnd⟩ := hW
  have hA : DataW.TrodAll enc Try.prog W 0 (fun _ => true) true Try.f11.params.toList args.toList ds p := hA0
  rw [Try.params11] at hA hval hsz
  obtain ⟨v0, vs0, d0, ds0, p0, q0, hargs, rfl, rfl, h0, r0⟩ := trodAll_cons hA
  obtain ⟨rfl, rfl, rfl⟩ := trodAll_nil r0
  obtain rfl : args = #[v0] := by cases args; simp_all
  obtain ⟨rfl, rfl⟩ := trodVars_none hV
  have k0 := h0
  have lt0 : ∀ x ∈ p0, x.block < W.heap.size := by obtain ⟨m, hm⟩ := k0; exact DataW.trod_lt m _ _ _ hm
  obtain ⟨⟨l0⟩, rfl, hz0⟩ := okWide_struct Try.underlying60 (hval 0 60 v0 rfl rfl)
  obtain ⟨fu0, hf0⟩ := h0
  obtain ⟨_, _, g0_0⟩ := field_any Try.underlying60 hf0 0 rfl
  obtain ⟨_, _, g0_0_0⟩ := field_any Try.underlying36 g0_0 0 rfl
  obtain ⟨a0_0, e0_0, w0_0⟩ := int_get Try.underlying3 g0_0_0
  replace e0_0 : l0[0]? = some (.int .i64 a0_0) := sub_get (sub_get (e0_0))
  obtain ⟨_, _, g0_0_1⟩ := field_any Try.underlying36 g0_0 1 rfl
  obtain ⟨a0_1, e0_1, w0_1⟩ := int_get Try.underlying3 g0_0_1
  replace e0_1 : l0[1]? = some (.int .i64 a0_1) := sub_get (sub_get (e0_1))
  obtain ⟨_, _, g0_0_2⟩ := field_any Try.underlying36 g0_0 2 rfl
  obtain ⟨a0_2, e0_2, w0_2⟩ := int_get Try.underlying3 g0_0_2
  replace e0_2 : l0[2]? = some (.int .i64 a0_2) := sub_get (sub_get (e0_2))
  obtain ⟨_, _, g0_1⟩ := field_any Try.underlying60 hf0 1 rfl
  obtain ⟨_, _, g0_1_0⟩ := field_any Try.underlying29 g0_1 0 rfl
  obtain ⟨a0_3, e0_3, w0_3⟩ := int_get Try.underlying3 g0_1_0
  replace e0_3 : l0[3]? = some (.int .i64 a0_3) := sub_get (sub_get (e0_3))
  obtain ⟨_, _, g0_1_1⟩ := field_any Try.underlying29 g0_1 1 rfl
  obtain ⟨a0_4, e0_4, w0_4⟩ := int_get Try.underlying3 g0_1_1
  replace e0_4 : l0[4]? = some (.int .i64 a0_4) := sub_get (sub_get (e0_4))
  obtain ⟨_, _, g0_2⟩ := field_any Try.underlying60 hf0 2 rfl
  obtain ⟨_, _, g0_2_0⟩ := field_any Try.underlying38 g0_2 0 rfl
  obtain ⟨_, _, g0_2_0_0⟩ := field_any Try.underlying36 g0_2_0 0 rfl
  obtain ⟨a0_5, e0_5, w0_5⟩ := int_get Try.underlying3 g0_2_0_0
  replace e0_5 : l0[5]? = some (.int .i64 a0_5) := sub_get (sub_get (sub_get (e0_5)))
  obtain ⟨_, _, g0_2_0_1⟩ := field_any Try.underlying36 g0_2_0 1 rfl
  obtain ⟨a0_6, e0_6, w0_6⟩ := int_get Try.underlying3 g0_2_0_1
  replace e0_6 : l0[6]? = some (.int .i64 a0_6) := sub_get (sub_get (sub_get (e0_6)))
  obtain ⟨_, _, g0_2_0_2⟩ := field_any Try.underlying36 g0_2_0 2 rfl
  obtain ⟨a0_7, e0_7, w0_7⟩ := int_get Try.underlying3 g0_2_0_2
  replace e0_7 : l0[7]? = some (.int .i64 a0_7) := sub_get (sub_get (sub_get (e0_7)))
  obtain ⟨_, _, g0_2_1⟩ := field_any Try.underlying38 g0_2 1 rfl
  obtain ⟨a0_8, e0_8, w0_8⟩ := int_get Try.underlying3 g0_2_1
  replace e0_8 : l0[8]? = some (.int .i64 a0_8) := sub_get (sub_get (e0_8))
  obtain ⟨_, _, g0_2_2⟩ := field_any Try.underlying38 g0_2 2 rfl
  obtain ⟨a0_9, e0_9, w0_9⟩ := int_get Try.underlying3 g0_2_2
  replace e0_9 : l0[9]? = some (.int .i64 a0_9) := sub_get (sub_get (e0_9))
  obtain ⟨_, _, g0_2_3⟩ := field_any Try.underlying38 g0_2 3 rfl
  obtain ⟨a0_10, e0_10, w0_10⟩ := int_get Try.underlying3 g0_2_3
  replace e0_10 : l0[10]? = some (.int .i64 a0_10) := sub_get (sub_get (e0_10))
  have hl0 : l0 = [.int .i64 a0_0, .int .i64 a0_1, .int .i64 a0_2, .int .i64 a0_3, .int .i64 a0_4, .int .i64 a0_5, .int .i64 a0_6, .int .i64 a0_7, .int .i64 a0_8, .int .i64 a0_9, .int .i64 a0_10] := getl (hz0.trans cells60) (by
    intro i hi
    match i, hi with
    | 0, _ => exact e0_0
    | 1, _ => exact e0_1
    | 2, _ => exact e0_2
    | 3, _ => exact e0_3
    | 4, _ => exact e0_4
    | 5, _ => exact e0_5
    | 6, _ => exact e0_6
    | 7, _ => exact e0_7
    | 8, _ => exact e0_8
    | 9, _ => exact e0_9
    | 10, _ => exact e0_10
    | n + 11, hi => exact absurd hi (by simp))
  subst hl0
  clear hA0 hval0 hsz0 hsz
  refine (PFnExactIsDesk.laws_FnExactIsDesk.calls a0_0 a0_1 a0_2 a0_3 a0_4 a0_5 a0_6 a0_7 a0_8 a0_9 a0_10 true W (PureFnExactIsDesk.holds a0_0 a0_1 a0_2 a0_3 a0_4 a0_5 a0_6 a0_7 a0_8 a0_9 a0_10 w0_0 w0_1 w0_2 w0_3 w0_4 w0_5 w0_6 w0_7 w0_8 w0_9 w0_10)).mono fun e W' ⟨he, bel0⟩ => ?_
  have bel : Below W.heap.size W W' := bel0
  subst he
  exact ⟨_, rfl, _, _, _, [], _, [], hW', trodAll_mk1 (shut_bool Try.underlying4 _), (trodAll_cons_mk (Below.trod laidOut (by kernel_rfl) (of_decide_eq_true (by kernel_rfl)) k0 bel lt0) trodAll_mk0), rfl, bel.frame _, fun h => by cases h⟩
theorem over : Rows.fnExactIsDeskRow.holds Try.pinned (OpenSpec.ofChange Rows.fnExactIsDeskSpec) :=
  OpenClaim.holds_of_wide 11 Try.f11 rfl rfl rfl rfl rfl rfl rfl ⟨rfl, rfl, rfl, rfl, rfl⟩ rfl rfl rfl rfl rfl (by kernel_rfl) Try.func11 (by kernel_rfl)
    (of_decide_eq_true (by kernel_rfl)) (by unfold Func.isWrapper; first | (rw [if_pos (by decide +kernel)]; kernel_rfl) | (rw [if_neg (by decide +kernel)]; exact ⟨rfl, rfl⟩))
    (fun os started H enc _ => lifted os started H enc)
end Go.Proofs.Ythiclneaehbhoaa.fnExactIsDesk
namespace Go.Proofs.Ythiclneaehbhoaa
/-- The row, under a short name, for the claim. -/
theorem fnExactIsDesk_holds : Rows.FnExactIsDeskSaid := fnExactIsDesk.over
#print axioms fnExactIsDesk_holds
end Go.Proofs.Ythiclneaehbhoaa
