/- The pure statement of FnExactBoldStake. No condition. -/
import Derived.Test.YthiclneaehbhoaaPFnExactBoldStakex1
import Derived.Test.YthiclneaehbhoaaMath
import Derived.OpenShut
namespace Go.Proofs.Ythiclneaehbhoaa.PureFnExactBoldStake
open Go Go.RowKit Go.Proofs.Ythiclneaehbhoaa.PFnExactBoldStake Go.Proofs.YthiclneaehbhoaaW.PrintWords Go.Proofs.YthiclneaehbhoaaW.PrintLast Go.Proofs.YthiclneaehbhoaaW.PrintMore
set_option linter.unusedVariables false
set_option linter.unusedSimpArgs false

theorem wrap_id {x : Int} (h : -9223372036854775808 ≤ x) (h' : x ≤ 9223372036854775807) : wrap64 x = x := by unfold wrap64; omega
theorem ite_dec (p q : Prop) [Decidable p] [Decidable q] : (if decide p = true then some (decide q) else some false) = some (decide (p ∧ q)) := by
  by_cases h : p <;> simp [h]
theorem some_dec {p q : Prop} [Decidable p] [Decidable q] (h : p ↔ q) : some (decide p) = some (decide q) := by rw [decide_eq_decide.2 h]
theorem l1In_eq (a b c : Int) : spec_l1In.f a b c = some (decide (b ≤ a ∧ a ≤ c)) := by
  unfold spec_l1In.f
  by_cases h : a ≥ b
  · rw [if_pos h]; simp [show b ≤ a from h]
  · rw [if_neg h]; simp; omega
theorem within_eq (a b c : Int) : impl_within.f a b c = some (decide (b ≤ a ∧ a ≤ c)) := by
  unfold impl_within.f
  by_cases h : a ≥ b
  · rw [if_pos h]; simp [show b ≤ a from h]
  · rw [if_neg h]; simp; omega
theorem skGood_eq (p g : Int) : spec_skGood.f p g = some (decide ((1 ≤ g ∧ g ≤ 16) ∧ (0 ≤ p ∧ p ≤ g))) := by
  unfold spec_skGood.f; simp only [l1In_eq, Option.bind_some]
  by_cases h1 : 1 ≤ g ∧ g ≤ 16 <;> simp [h1]
theorem AreStakes_eq (p g : Int) : impl_AreStakes.f p g = some (decide ((1 ≤ g ∧ g ≤ 16) ∧ (0 ≤ p ∧ p ≤ g))) := by
  unfold impl_AreStakes.f; simp only [within_eq, Option.bind_some]
  by_cases h1 : 1 ≤ g ∧ g ≤ 16 <;> simp [h1]

theorem holds (a0_0 : Int) (a0_1 : Int) (w0_0 : (Lit.int .i64 a0_0).wf = true) (w0_1 : (Lit.int .i64 a0_1).wf = true) : laws_FnExactBoldStake.f a0_0 a0_1 = some true := by
  simp only [laws_FnExactBoldStake.f, laws_toStakes.f, spec_BoldStake.f, spec_skBold.f, spec_l1Least.f, impl_BoldStake.f, impl_Stakes_isOver.f, impl_Stakes_bold.f, skGood_eq, AreStakes_eq, Option.bind_some]
  by_cases h : (1 ≤ a0_1 ∧ a0_1 ≤ 16) ∧ (0 ≤ a0_0 ∧ a0_0 ≤ a0_1)
  · rw [decide_eq_true h, wrap_id (x := a0_1 - a0_0) (by omega) (by omega)]
    unfold mn
    simp only [if_true]
    by_cases h3 : a0_0 = 0
    · have h4 : a0_0 < a0_1 - a0_0 := by omega
      rw [if_pos h4]; simp only [Option.bind_some]; rw [if_pos h3, if_pos h3]; simp
    · rw [if_neg h3]; simp only [Option.bind_some]
      by_cases h4 : a0_0 = a0_1
      · have e : (a0_0 == a0_1) = true := by simpa using h4
        have h5 : ¬ (a0_0 < a0_1 - a0_0) := by omega
        have h6 : a0_1 - a0_0 = 0 := by omega
        rw [if_neg h5, e]; simp only [Option.bind_some]; rw [if_pos h6]; simp
      · have e : (a0_0 == a0_1) = false := by simpa using h4
        rw [e]
        by_cases h5 : a0_0 < a0_1 - a0_0
        · have h6 : ¬ (a0_1 - a0_0 < a0_0) := by omega
          rw [if_pos h5, if_neg h6]; simp only [Option.bind_some]; rw [if_neg h3]; simp
        · have h7 : ¬ (a0_1 - a0_0 = 0) := by omega
          rw [if_neg h5]; simp only [Option.bind_some]; rw [if_neg h7]
          by_cases h6 : a0_1 - a0_0 < a0_0
          · rw [if_pos h6]; simp
          · have h8 : a0_1 - a0_0 = a0_0 := by omega
            rw [if_neg h6, h8]; simp
  · rw [decide_eq_false h]; simp
end Go.Proofs.Ythiclneaehbhoaa.PureFnExactBoldStake
