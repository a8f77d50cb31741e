/- The row of FnExactPuzzleText: whatever comes in, the call returns true and leaves its arguments as they were. No condition. -/
import Derived.LaidMore
import Derived.Stop.LaidErr
import Derived.Lib.LaidTab
import Derived.Lib.ItoaNum
import Derived.SevenTiedAt
import Derived.Test.YtdmgmoedpgbnkaaDoorCards
import Derived.Test.YtdmgmoedpgbnkaaDoorTie
import Derived.Test.YtdmgmoedpgbnkaaDoorRows
import Derived.Test.YtdmgmoedpgbnkaaDoorQFnExactPuzzleTextx6
import Derived.Test.YtdmgmoedpgbnkaaDoorPureFnExactPuzzleText
import Derived.Test.YtdmgmoedpgbnkaaDoorKit
import Derived.Test.YtdmgmoedpgbnkaaDoorKit2
import Derived.WalkKit
import Derived.ProofKit
import Derived.OpenShut
import Derived.ShutString
import Derived.ChangeOld
import Derived.Below
import Derived.Carry
import Derived.SizedLaws
namespace Go.Proofs.YtdmgmoedpgbnkaaDoor.fnExactPuzzleText
open Go.ChangeShapes Go.WideShapes Go.ChangeAt Go.RowKit Go.Proofs.YtdmgmoedpgbnkaaDoor.Kit
open Go.ChangeMaps (open_string shut_string)
set_option linter.unusedVariables false
theorem own : ownKnob Tryd.prog.godebug = none := by kernel_rfl
theorem laidOut : laidOutB Tryd.prog = true := by kernel_rfl
theorem cells24 : Tryd.prog.cellsOf 24 = 2 := by kernel_rfl
theorem cells49 : Tryd.prog.cellsOf 49 = 3 := by kernel_rfl
set_option maxRecDepth 100000 in
theorem door_met (os : Os) (args : Array Value) : laidMetH Tryd.prog Rows.fnExactPuzzleTextRow.laid ((World.doorLaid Tryd.prog 400 os).forCall (fun _ _ => 0) ⟨#[], args, []⟩).memory :=
  laidMetH_of_parts3 (fuel := 8) (laidMet_of_run' 8 (by kernel_rfl) (by kernel_rfl)) (by kernel_rfl) (by kernel_rfl)
set_option maxRecDepth 100000 in
theorem lifted (os : Os) (started : os.Started) (H : Type) (enc : TypeId × Value → H) :
    ReturnsInHanded {} Tryd.checked os 3 .any (fun w args => (Rows.fnExactPuzzleTextSpec.pre enc Tryd.prog Tryd.f3 [] false w args ∧ laidMetH Tryd.prog Rows.fnExactPuzzleTextRow.laid w) ∧ sizedMet enc Tryd.prog Tryd.f3 (OpenSpec.ofChange Rows.fnExactPuzzleTextSpec) false w args) (Rows.fnExactPuzzleTextSpec.post enc Tryd.prog Tryd.f3 false true false false) := by
  refine returnsInHanded_of_change_and (C := Tryd.checked) (X := (fun w _ => laidMetH Tryd.prog Rows.fnExactPuzzleTextRow.laid w)) (fun _ _ _ hh h => h.of_heap hh) own started (by kernel_rfl) Tryd.func3
    (ChangeSpec.witness_shaped (enc := enc) (C := Tryd.checked) (os := os) (X := (fun w _ => laidMetH Tryd.prog Rows.fnExactPuzzleTextRow.laid w)) false (World.doorLaid Tryd.prog 400 os) #[.agg #[.int .i64 0, .slice none 0 0]] 8 rfl (World.shaped_of_RefB (by kernel_rfl) (by kernel_rfl)) (by kernel_rfl) (by kernel_rfl) (by kernel_rfl) (door_met os _)) ?_
  intro W base args ds gs before hval0 hW hcnd hsz0 hL _
  have hsz : (DataW.weightsEach Tryd.prog (Tryd.f3.params.toList ++ Rows.fnExactPuzzleTextSpec.plain.varTypes Tryd.prog) (ds ++ gs)).all (· ≤ reachBytes) = true := hsz0
  have hval : ∀ (j : Nat) t v, Tryd.f3.params[j]? = some t → args[j]? = some v → Value.okWide Tryd.prog W .any base t v := hval0
  have hW' := hW
  obtain ⟨p, q, hA0, hV, rfl, hfz, hnd⟩ := hW
  have hA : DataW.TrodAll enc Tryd.prog W 0 (fun _ => true) true Tryd.f3.params.toList args.toList ds p := hA0
  rw [Tryd.params3] at hA hval hsz
  obtain ⟨v0, vs0, d0, ds0, p0, q0, hargs, rfl, rfl, h0, r0⟩ := trodAll_cons hA
  obtain ⟨rfl, rfl, rfl⟩ := trodAll_nil r0
  obtain rfl : args = #[v0] := by cases args; simp_all
  obtain ⟨rfl, rfl⟩ := trodVars_none hV
  have k0 := h0
  have lt0 : ∀ x ∈ p0, x.block < W.heap.size := by obtain ⟨m, hm⟩ := k0; exact DataW.trod_lt m _ _ _ hm
  obtain ⟨⟨l0⟩, rfl, hz0⟩ := okWide_struct Tryd.underlying24 (hval 0 24 v0 rfl rfl)
  obtain ⟨fu0, hf0⟩ := h0
  obtain ⟨_, _, g0_0⟩ := field_any Tryd.underlying24 hf0 0 rfl
  obtain ⟨a0_0, e0_0, w0_0⟩ := int_get Tryd.underlying3 g0_0
  replace e0_0 : l0[0]? = some (.int .i64 a0_0) := sub_get (e0_0)
  obtain ⟨_, _, g0_1⟩ := field_any Tryd.underlying24 hf0 1 rfl
  obtain ⟨A0_1, c0_1, l0_1, e0_1, b0_1, m0_1, n0_1, R0_1⟩ := three_get (α := QFnExactPuzzleText.S49) (fun a b c => ⟨a, b, c⟩) Tryd.underlying22 Tryd.underlying49 cells49 rfl rfl rfl Tryd.underlying3 Tryd.underlying3 Tryd.underlying3 g0_1
  replace e0_1 : l0[1]? = some (.slice A0_1 l0_1.length c0_1) := sub_get (e0_1)
  have hr0_1 : Go.Proofs.YtdmgmoedpgbnkaaDoorW.PrintWords.Kd.C QFnExactPuzzleText.k49 W A0_1 l0_1.length l0_1 := by
    refine ⟨rfl, Nat.le_trans b0_1 m0_1, fun hn => ?_⟩
    cases A0_1 with
    | none => rw [n0_1 rfl] at hn; exact absurd hn (Nat.lt_irrefl _)
    | some ad =>
      refine ⟨ad, rfl, fun j p hp => ?_⟩
      obtain ⟨a, b, d, rfl, _, h0, h1, h2⟩ := R0_1 ad rfl j p hp
      refine ⟨_, rfl, QFnExactPuzzleText.k49_mk W _, fun i u hu => ?_⟩
      match i, hu with
      | 0, hu => obtain rfl := Option.some.inj hu; exact h0
      | 1, hu => obtain rfl := Option.some.inj hu; exact h1
      | 2, hu => obtain rfl := Option.some.inj hu; exact h2
      | n + 3, hu => cases hu
  have hl0 : l0 = [.int .i64 a0_0, .slice A0_1 l0_1.length c0_1] := getl (hz0.trans cells24) (by
    intro i hi
    match i, hi with
    | 0, _ => exact e0_0
    | 1, _ => exact e0_1
    | n + 2, hi => exact absurd hi (by simp))
  subst hl0
  clear hA0 hval0 hsz0 hsz
  obtain ⟨k, hk⟩ := PureFnExactPuzzleText.holds a0_0 l0_1 w0_0 (Nat.le_trans b0_1 m0_1)
  have hL1 : laidMet Tryd.prog [("math/bits.deBruijn32tab", Rows.laid_math_bits_deBruijn32tab), ("math/bits.deBruijn64tab", Rows.laid_math_bits_deBruijn64tab), ("internal/strconv.uint64pow10", Rows.laid_internal_strconv_uint64pow10)] W := hL
  have eT : Rows.laid_internal_strconv_uint64pow10 (H := Unit) = Lib.tabData .u64 Lib.pow10Tab := by kernel_rfl
  have hL2 := hL1.tail.tail
  rw [eT] at hL2
  have htab : Lib.TabIs Tryd.prog W "internal/strconv.uint64pow10" .u64 Lib.pow10Tab := Lib.tabIs_of_head (g := 0) (t := 78) (e := 68) (n := 20) (by kernel_rfl) (by kernel_rfl) Tryd.underlying78 Tryd.underlying68 (by kernel_rfl) (by kernel_rfl) hL2
  refine (QFnExactPuzzleText.laws_FnExactPuzzleText.calls k a0_0 A0_1 c0_1 l0_1 true W hr0_1 b0_1 htab hk).mono fun e W' ⟨he, bel0⟩ => ?_
  have bel : Below W.heap.size W W' := bel0
  subst he
  exact ⟨_, rfl, _, _, _, [], _, [], hW', trodAll_mk1 (shut_bool Tryd.underlying4 _), (trodAll_cons_mk (Below.trod laidOut (by kernel_rfl) (of_decide_eq_true (by kernel_rfl)) k0 bel lt0) trodAll_mk0), rfl, bel.frame _, fun h => by cases h⟩
theorem over : Rows.fnExactPuzzleTextRow.holds Tryd.pinned (OpenSpec.ofChange Rows.fnExactPuzzleTextSpec) :=
  OpenClaim.holds_of_wide 3 Tryd.f3 rfl rfl rfl rfl rfl rfl rfl ⟨rfl, rfl, rfl, rfl, rfl⟩ rfl rfl rfl rfl rfl (by kernel_rfl) Tryd.func3 (by kernel_rfl)
    (of_decide_eq_true (by kernel_rfl)) (by unfold Func.isWrapper; first | (rw [if_pos (by decide +kernel)]; kernel_rfl) | (rw [if_neg (by decide +kernel)]; exact ⟨rfl, rfl⟩))
    (fun os started H enc _ => lifted os started H enc)
end Go.Proofs.YtdmgmoedpgbnkaaDoor.fnExactPuzzleText
namespace Go.Proofs.YtdmgmoedpgbnkaaDoor
/-- The row, under a short name, for the claim. -/
theorem fnExactPuzzleText_holds : Rows.FnExactPuzzleTextSaid := fnExactPuzzleText.over
theorem fnExactPuzzleText_card : Rows.FnExactPuzzleTextCardSaid :=
  Claim7.holds_tied_plain_at .later [] [.data, .data, .data] true (true, "3194c92988a4c7f2941c938894ba9bb64a2d627a4d901ab47a87719aaff6add3") false
    fnExactPuzzleText_holds (fun _ h => by cases h) (by kernel_rfl) (fun _ h => by cases h) fnExactPuzzleText_row_tie rfl ⟨rfl, rfl⟩ (by kernel_rfl) rfl
    (fun f fn hf hfn => by
      obtain rfl : f = 3 := Option.some.inj ((show Tryd.prog.funcNamed "loop.example/g01337/laws.FnExactPuzzleText" = some 3 by kernel_rfl).symm.trans hf) |>.symm
      obtain rfl : fn = Tryd.f3 := (Option.some.inj (Tryd.func3.symm.trans hfn)).symm
      exact ⟨by kernel_rfl, fun j t ht => by
        rw [Tryd.params3] at ht
        have hm : t ∈ [24] := by simpa using Array.mem_of_getElem? ht
        have hall : ([24].all fun u => !Tryd.prog.wantsStandIn u) = true := by kernel_rfl
        exact (show Tryd.prog.wantsStandIn t = false by simpa using List.all_eq_true.1 hall t hm)⟩)
    (by kernel_rfl)
#print axioms fnExactPuzzleText_card
end Go.Proofs.YtdmgmoedpgbnkaaDoor
