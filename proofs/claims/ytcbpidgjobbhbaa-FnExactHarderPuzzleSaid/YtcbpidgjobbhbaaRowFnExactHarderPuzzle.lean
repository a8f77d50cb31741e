/- The row of FnExactHarderPuzzle: whatever comes in, the call returns true and leaves its arguments as they were. No condition. -/
import Derived.Test.YtcbpidgjobbhbaaRows
import Derived.Test.YtcbpidgjobbhbaaQFnExactHarderPuzzlex10
import Derived.Test.YtcbpidgjobbhbaaPureFnExactHarderPuzzle
import Derived.Test.YtcbpidgjobbhbaaKit
import Derived.Test.YtcbpidgjobbhbaaKit2
import Derived.WalkKit
import Derived.ProofKit
import Derived.OpenShut
import Derived.ShutString
import Derived.ChangeOld
import Derived.Below
import Derived.Carry
import Derived.SizedLaws
namespace Go.Proofs.Ytcbpidgjobbhbaa.fnExactHarderPuzzle
open Go.ChangeShapes Go.WideShapes Go.ChangeAt Go.RowKit Go.Proofs.Ytcbpidgjobbhbaa.Kit
open Go.ChangeMaps (open_string shut_string)
set_option linter.unusedVariables false
theorem own : ownKnob Try.prog.godebug = none := by kernel_rfl
theorem laidOut : laidOutB Try.prog = true := by kernel_rfl
theorem cells24 : Try.prog.cellsOf 24 = 2 := by kernel_rfl
theorem cells62 : Try.prog.cellsOf 62 = 3 := by kernel_rfl
set_option maxRecDepth 100000 in
theorem lifted (os : Os) (started : os.Started) (H : Type) (enc : TypeId × Value → H) :
    ReturnsInHanded {} Try.checked os 4 .any (Rows.fnExactHarderPuzzleSpec.pre6 enc Try.prog Try.f4 Rows.fnExactHarderPuzzleRow.domain false) (Rows.fnExactHarderPuzzleSpec.post enc Try.prog Try.f4 false true false false) := by
  refine returnsInHanded_of_change_sized (C := Try.checked) own started (by kernel_rfl) Try.func4
    (ChangeSpec.witness6 (enc := enc) (C := Try.checked) false ⟨#[], #[.agg #[.int .i64 0, .slice none 0 0]], []⟩ 8 (by kernel_rfl) (by kernel_rfl) (by kernel_rfl) (by kernel_rfl)) ?_
  intro W base args ds gs before hval0 hW hcnd hsz0 _
  have hsz : (DataW.weightsEach Try.prog (Try.f4.params.toList ++ Rows.fnExactHarderPuzzleSpec.plain.varTypes Try.prog) (ds ++ gs)).all (· ≤ reachBytes) = true := hsz0
  have hval : ∀ (j : Nat) t v, Try.f4.params[j]? = some t → args[j]? = some v → Value.okWide Try.prog W .any base t v := hval0
  have hW' := hW
  obtain ⟨p, q, hA0, hV, rfl, hfz, hnd⟩ := hW
  have hA : DataW.TrodAll enc Try.prog W 0 (fun _ => true) true Try.f4.params.toList args.toList ds p := hA0
  rw [Try.params4] at hA hval hsz
  obtain ⟨v0, vs0, d0, ds0, p0, q0, hargs, rfl, rfl, h0, r0⟩ := trodAll_cons hA
  obtain ⟨rfl, rfl, rfl⟩ := trodAll_nil r0
  obtain rfl : args = #[v0] := by cases args; simp_all
  obtain ⟨rfl, rfl⟩ := trodVars_none hV
  have k0 := h0
  have lt0 : ∀ x ∈ p0, x.block < W.heap.size := by obtain ⟨m, hm⟩ := k0; exact DataW.trod_lt m _ _ _ hm
  obtain ⟨⟨l0⟩, rfl, hz0⟩ := okWide_struct Try.underlying24 (hval 0 24 v0 rfl rfl)
  obtain ⟨fu0, hf0⟩ := h0
  obtain ⟨_, _, g0_0⟩ := field_any Try.underlying24 hf0 0 rfl
  obtain ⟨a0_0, e0_0, w0_0⟩ := int_get Try.underlying3 g0_0
  replace e0_0 : l0[0]? = some (.int .i64 a0_0) := sub_get (e0_0)
  obtain ⟨_, _, g0_1⟩ := field_any Try.underlying24 hf0 1 rfl
  obtain ⟨A0_1, c0_1, l0_1, e0_1, b0_1, m0_1, n0_1, R0_1⟩ := three_get (α := QFnExactHarderPuzzle.S62) (fun a b c => ⟨a, b, c⟩) Try.underlying22 Try.underlying62 cells62 rfl rfl rfl Try.underlying3 Try.underlying3 Try.underlying3 g0_1
  replace e0_1 : l0[1]? = some (.slice A0_1 l0_1.length c0_1) := sub_get (e0_1)
  have hr0_1 : Go.Proofs.YtcbpidgjobbhbaaW.PrintWords.Kd.C QFnExactHarderPuzzle.k62 W A0_1 l0_1.length l0_1 := by
    refine ⟨rfl, Nat.le_trans b0_1 m0_1, fun hn => ?_⟩
    cases A0_1 with
    | none => rw [n0_1 rfl] at hn; exact absurd hn (Nat.lt_irrefl _)
    | some ad =>
      refine ⟨ad, rfl, fun j p hp => ?_⟩
      obtain ⟨a, b, d, rfl, _, h0, h1, h2⟩ := R0_1 ad rfl j p hp
      refine ⟨_, rfl, QFnExactHarderPuzzle.k62_mk W _, fun i u hu => ?_⟩
      match i, hu with
      | 0, hu => obtain rfl := Option.some.inj hu; exact h0
      | 1, hu => obtain rfl := Option.some.inj hu; exact h1
      | 2, hu => obtain rfl := Option.some.inj hu; exact h2
      | n + 3, hu => cases hu
  have hl0 : l0 = [.int .i64 a0_0, .slice A0_1 l0_1.length c0_1] := getl (hz0.trans cells24) (by
    intro i hi
    match i, hi with
    | 0, _ => exact e0_0
    | 1, _ => exact e0_1
    | n + 2, hi => exact absurd hi (by simp))
  subst hl0
  clear hA0 hval0 hsz0 hsz
  obtain ⟨k, hk⟩ := PureFnExactHarderPuzzle.holds a0_0 l0_1 w0_0 (Nat.le_trans b0_1 m0_1)
  refine (QFnExactHarderPuzzle.laws_FnExactHarderPuzzle.calls k a0_0 A0_1 c0_1 l0_1 true W hr0_1 b0_1 hk).mono fun e W' ⟨he, bel0⟩ => ?_
  have bel : Below W.heap.size W W' := bel0
  subst he
  exact ⟨_, rfl, _, _, _, [], _, [], hW', trodAll_mk1 (shut_bool Try.underlying4 _), (trodAll_cons_mk (Below.trod laidOut (by kernel_rfl) (of_decide_eq_true (by kernel_rfl)) k0 bel lt0) trodAll_mk0), rfl, bel.frame _, fun h => by cases h⟩
theorem over : Rows.fnExactHarderPuzzleRow.holds Try.pinned (OpenSpec.ofChange Rows.fnExactHarderPuzzleSpec) :=
  OpenClaim.holds_of_wide 4 Try.f4 rfl rfl rfl rfl rfl rfl rfl ⟨rfl, rfl, rfl, rfl, rfl⟩ rfl rfl rfl rfl rfl (by kernel_rfl) Try.func4 (by kernel_rfl)
    (of_decide_eq_true (by kernel_rfl)) (by unfold Func.isWrapper; first | (rw [if_pos (by decide +kernel)]; kernel_rfl) | (rw [if_neg (by decide +kernel)]; exact ⟨rfl, rfl⟩))
    (fun os started H enc _ => lifted os started H enc)
end Go.Proofs.Ytcbpidgjobbhbaa.fnExactHarderPuzzle
namespace Go.Proofs.Ytcbpidgjobbhbaa
/-- The row, under a short name, for the claim. -/
theorem fnExactHarderPuzzle_holds : Rows.FnExactHarderPuzzleSaid := fnExactHarderPuzzle.over
#print axioms fnExactHarderPuzzle_holds
end Go.Proofs.Ytcbpidgjobbhbaa
