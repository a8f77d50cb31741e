/- The row of FnExactBoldWithin: whatever comes in, the call returns true and leaves its arguments as they were. No condition. -/
import Derived.Test.YtkcpmdkjhpbmfaaRows
import Derived.Test.YtkcpmdkjhpbmfaaQFnExactBoldWithinx6
import Derived.Test.YtkcpmdkjhpbmfaaPureFnExactBoldWithin
import Derived.Test.YtkcpmdkjhpbmfaaKit
import Derived.WalkKit
import Derived.ProofKit
import Derived.OpenShut
import Derived.ShutString
import Derived.ChangeOld
import Derived.Below
import Derived.Carry
import Derived.SizedLaws
namespace Go.Proofs.Ytkcpmdkjhpbmfaa.fnExactBoldWithin
open Go.ChangeShapes Go.WideShapes Go.ChangeAt Go.RowKit Go.Proofs.Ytkcpmdkjhpbmfaa.Kit
open Go.ChangeMaps (open_string shut_string)
set_option linter.unusedVariables false
theorem own : ownKnob Try.prog.godebug = none := by kernel_rfl
theorem laidOut : laidOutB Try.prog = true := by kernel_rfl
theorem cells23 : Try.prog.cellsOf 23 = 2 := by kernel_rfl
theorem cells30 : Try.prog.cellsOf 30 = 2 := by kernel_rfl
set_option maxRecDepth 100000 in
theorem lifted (os : Os) (started : os.Started) (H : Type) (enc : TypeId × Value → H) :
    ReturnsInHanded {} Try.checked os 11 .any (Rows.fnExactBoldWithinSpec.pre6 enc Try.prog Try.f11 Rows.fnExactBoldWithinRow.domain false) (Rows.fnExactBoldWithinSpec.post enc Try.prog Try.f11 false true false false) := by
  refine returnsInHanded_of_change_sized (C := Try.checked) own started (by kernel_rfl) Try.func11
    (ChangeSpec.witness6 (enc := enc) (C := Try.checked) false ⟨#[], #[.agg #[.int .i64 0, .int .i64 0], .agg #[.int .i64 0, .int .i64 0], .int .i64 0], []⟩ 8 (by kernel_rfl) (by kernel_rfl) (by kernel_rfl) (by kernel_rfl)) ?_
  intro W base args ds gs before hval0 hW hcnd hsz0 _
  have hsz : (DataW.weightsEach Try.prog (Try.f11.params.toList ++ Rows.fnExactBoldWithinSpec.plain.varTypes Try.prog) (ds ++ gs)).all (· ≤ reachBytes) = true := hsz0
  have hval : ∀ (j : Nat) t v, Try.f11.params[j]? = some t → args[j]? = some v → Value.okWide Try.prog W .any base t v := hval0
  have hW' := hW
  obtain ⟨p, q, hA0, hV, rfl, hfz, hnd⟩ := hW
  have hA : DataW.TrodAll enc Try.prog W 0 (fun _ => true) true Try.f11.params.toList args.toList ds p := hA0
  rw [Try.params11] at hA hval hsz
  obtain ⟨v0, vs0, d0, ds0, p0, q0, hargs, rfl, rfl, h0, r0⟩ := trodAll_cons hA
  obtain ⟨v1, vs1, d1, ds1, p1, q1, rfl, rfl, rfl, h1, r1⟩ := trodAll_cons r0
  obtain ⟨v2, vs2, d2, ds2, p2, q2, rfl, rfl, rfl, h2, r2⟩ := trodAll_cons r1
  obtain ⟨rfl, rfl, rfl⟩ := trodAll_nil r2
  obtain rfl : args = #[v0, v1, v2] := by cases args; simp_all
  obtain ⟨rfl, rfl⟩ := trodVars_none hV
  have k0 := h0
  have lt0 : ∀ x ∈ p0, x.block < W.heap.size := by obtain ⟨m, hm⟩ := k0; exact DataW.trod_lt m _ _ _ hm
  obtain ⟨⟨l0⟩, rfl, hz0⟩ := okWide_struct Try.underlying30 (hval 0 30 v0 rfl rfl)
  obtain ⟨fu0, hf0⟩ := h0
  obtain ⟨_, _, g0_0⟩ := field_any Try.underlying30 hf0 0 rfl
  obtain ⟨a0_0, e0_0, w0_0⟩ := int_get Try.underlying3 g0_0
  replace e0_0 : l0[0]? = some (.int .i64 a0_0) := sub_get (e0_0)
  obtain ⟨_, _, g0_1⟩ := field_any Try.underlying30 hf0 1 rfl
  obtain ⟨a0_1, e0_1, w0_1⟩ := int_get Try.underlying3 g0_1
  replace e0_1 : l0[1]? = some (.int .i64 a0_1) := sub_get (e0_1)
  have hl0 : l0 = [.int .i64 a0_0, .int .i64 a0_1] := getl (hz0.trans cells30) (by
    intro i hi
    match i, hi with
    | 0, _ => exact e0_0
    | 1, _ => exact e0_1
    | n + 2, hi => exact absurd hi (by simp))
  subst hl0
  have k1 := h1
  have lt1 : ∀ x ∈ p1, x.block < W.heap.size := by obtain ⟨m, hm⟩ := k1; exact DataW.trod_lt m _ _ _ hm
  obtain ⟨⟨l1⟩, rfl, hz1⟩ := okWide_struct Try.underlying23 (hval 1 23 v1 rfl rfl)
  obtain ⟨fu1, hf1⟩ := h1
  obtain ⟨_, _, g1_0⟩ := field_any Try.underlying23 hf1 0 rfl
  obtain ⟨a1_0, e1_0, w1_0⟩ := int_get Try.underlying3 g1_0
  replace e1_0 : l1[0]? = some (.int .i64 a1_0) := sub_get (e1_0)
  obtain ⟨_, _, g1_1⟩ := field_any Try.underlying23 hf1 1 rfl
  obtain ⟨a1_1, e1_1, w1_1⟩ := int_get Try.underlying3 g1_1
  replace e1_1 : l1[1]? = some (.int .i64 a1_1) := sub_get (e1_1)
  have hl1 : l1 = [.int .i64 a1_0, .int .i64 a1_1] := getl (hz1.trans cells23) (by
    intro i hi
    match i, hi with
    | 0, _ => exact e1_0
    | 1, _ => exact e1_1
    | n + 2, hi => exact absurd hi (by simp))
  subst hl1
  obtain ⟨a2, rfl, rfl, rfl, w2⟩ := open_int Try.underlying3 (hval 2 3 v2 rfl rfl) h2
  clear hA0 hval0 hsz0 hsz
  obtain ⟨k, hk⟩ := PureFnExactBoldWithin.holds a0_0 a0_1 a1_0 a1_1 a2 w0_0 w0_1 w1_0 w1_1 w2
  refine (QFnExactBoldWithin.laws_FnExactBoldWithin.calls k a0_0 a0_1 a1_0 a1_1 a2 true W hk).mono fun e W' ⟨he, bel0⟩ => ?_
  have bel : Below W.heap.size W W' := bel0
  subst he
  exact ⟨_, rfl, _, _, _, [], _, [], hW', trodAll_mk1 (shut_bool Try.underlying4 _), (trodAll_cons_mk (Below.trod laidOut (by kernel_rfl) (of_decide_eq_true (by kernel_rfl)) k0 bel lt0) (trodAll_cons_mk (Below.trod laidOut (by kernel_rfl) (of_decide_eq_true (by kernel_rfl)) k1 bel lt1) (trodAll_cons_mk (shut_int Try.underlying3 w2) trodAll_mk0))), rfl, bel.frame _, fun h => by cases h⟩
theorem over : Rows.fnExactBoldWithinRow.holds Try.pinned (OpenSpec.ofChange Rows.fnExactBoldWithinSpec) :=
  OpenClaim.holds_of_wide 11 Try.f11 rfl rfl rfl rfl rfl rfl rfl ⟨rfl, rfl, rfl, rfl, rfl⟩ rfl rfl rfl rfl rfl (by kernel_rfl) Try.func11 (by kernel_rfl)
    (of_decide_eq_true (by kernel_rfl)) (by unfold Func.isWrapper; first | (rw [if_pos (by decide +kernel)]; kernel_rfl) | (rw [if_neg (by decide +kernel)]; exact ⟨rfl, rfl⟩))
    (fun os started H enc _ => lifted os started H enc)
end Go.Proofs.Ytkcpmdkjhpbmfaa.fnExactBoldWithin
namespace Go.Proofs.Ytkcpmdkjhpbmfaa
/-- The row, under a short name, for the claim. -/
theorem fnExactBoldWithin_holds : Rows.FnExactBoldWithinSaid := fnExactBoldWithin.over
#print axioms fnExactBoldWithin_holds
end Go.Proofs.Ytkcpmdkjhpbmfaa
