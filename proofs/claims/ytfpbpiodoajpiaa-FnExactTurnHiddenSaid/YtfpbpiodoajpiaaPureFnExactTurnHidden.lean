/- The pure statement of FnExactTurnHidden. No condition. -/
import Derived.Test.YtfpbpiodoajpiaaPFnExactTurnHiddenx2
import Derived.Test.YtfpbpiodoajpiaaMath
import Derived.OpenShut
namespace Go.Proofs.Ytfpbpiodoajpiaa.PureFnExactTurnHidden
open Go Go.RowKit Go.Proofs.Ytfpbpiodoajpiaa.PFnExactTurnHidden Go.Proofs.YtfpbpiodoajpiaaW.PrintWords Go.Proofs.YtfpbpiodoajpiaaW.PrintLast Go.Proofs.YtfpbpiodoajpiaaW.PrintMore
set_option linter.unusedVariables false
set_option linter.unusedSimpArgs false

theorem wrap_id {x : Int} (h : -9223372036854775808 ≤ x) (h' : x ≤ 9223372036854775807) : wrap64 x = x := by unfold wrap64; omega
theorem ite_dec (p q : Prop) [Decidable p] [Decidable q] : (if decide p = true then some (decide q) else some false) = some (decide (p ∧ q)) := by
  by_cases h : p <;> simp [h]
theorem some_dec {p q : Prop} [Decidable p] [Decidable q] (h : p ↔ q) : some (decide p) = some (decide q) := by rw [decide_eq_decide.2 h]
theorem l1In_eq (a b c : Int) : spec_l1In.f a b c = some (decide (b ≤ a ∧ a ≤ c)) := by
  unfold spec_l1In.f
  by_cases h : a ≥ b
  · rw [if_pos h]; simp [show b ≤ a from h]
  · rw [if_neg h]; simp; omega
theorem within_eq (a b c : Int) : impl_within.f a b c = some (decide (b ≤ a ∧ a ≤ c)) := by
  unfold impl_within.f
  by_cases h : a ≥ b
  · rw [if_pos h]; simp [show b ≤ a from h]
  · rw [if_neg h]; simp; omega
theorem cnGood_eq (a b c : Int) : spec_cnGood.f a b c = some (decide ((1 ≤ c ∧ c ≤ 10) ∧ (0 ≤ a ∧ a ≤ c) ∧ (0 ≤ b ∧ b ≤ c))) := by
  unfold spec_cnGood.f; simp only [l1In_eq, Option.bind_some]
  by_cases h : 1 ≤ c ∧ c ≤ 10 <;> by_cases h2 : 0 ≤ a ∧ a ≤ c <;> simp [h, h2]
theorem IsChain_eq (a b c : Int) : impl_IsChain.f a b c = some (decide ((1 ≤ c ∧ c ≤ 10) ∧ (0 ≤ a ∧ a ≤ c) ∧ (0 ≤ b ∧ b ≤ c))) := by
  unfold impl_IsChain.f; simp only [within_eq, Option.bind_some]
  by_cases h : 1 ≤ c ∧ c ≤ 10 <;> by_cases h2 : 0 ≤ a ∧ a ≤ c <;> simp [h, h2]
theorem hdGood_eq (a b c d e g : Int) : spec_hdGood.f a b c d e g = some (decide (((1 ≤ c ∧ c ≤ 10) ∧ (0 ≤ a ∧ a ≤ c) ∧ (0 ≤ b ∧ b ≤ c)) ∧ (1 ≤ g ∧ g ≤ 10) ∧ (0 ≤ d ∧ d ≤ g) ∧ (0 ≤ e ∧ e ≤ g))) := by
  unfold spec_hdGood.f; simp only [cnGood_eq, l1In_eq, Option.bind_some]
  by_cases h : (1 ≤ c ∧ c ≤ 10) ∧ (0 ≤ a ∧ a ≤ c) ∧ (0 ≤ b ∧ b ≤ c)
  · by_cases h1 : 1 ≤ g ∧ g ≤ 10 <;> by_cases h2 : 0 ≤ d ∧ d ≤ g <;> simp [h, h1, h2]
  · simp only [h, decide_false, false_and, Bool.false_eq_true, if_false]
theorem IsHidden_eq (a b c d e g : Int) : impl_IsHidden.f a b c d e g = some (decide (((1 ≤ c ∧ c ≤ 10) ∧ (0 ≤ a ∧ a ≤ c) ∧ (0 ≤ b ∧ b ≤ c)) ∧ (1 ≤ g ∧ g ≤ 10) ∧ (0 ≤ d ∧ d ≤ g) ∧ (0 ≤ e ∧ e ≤ g))) := by
  unfold impl_IsHidden.f; simp only [IsChain_eq, within_eq, Option.bind_some]
  by_cases h : (1 ≤ c ∧ c ≤ 10) ∧ (0 ≤ a ∧ a ≤ c) ∧ (0 ≤ b ∧ b ≤ c)
  · by_cases h1 : 1 ≤ g ∧ g ≤ 10 <;> by_cases h2 : 0 ≤ d ∧ d ≤ g <;> simp [h, h1, h2]
  · simp only [h, decide_false, false_and, Bool.false_eq_true, if_false]

theorem holds (a0_0 : Int) (a0_1 : Int) (a0_2 : Int) (a0_3 : Int) (a0_4 : Int) (a0_5 : Int) (w0_0 : (Lit.int .i64 a0_0).wf = true) (w0_1 : (Lit.int .i64 a0_1).wf = true) (w0_2 : (Lit.int .i64 a0_2).wf = true) (w0_3 : (Lit.int .i64 a0_3).wf = true) (w0_4 : (Lit.int .i64 a0_4).wf = true) (w0_5 : (Lit.int .i64 a0_5).wf = true) : laws_FnExactTurnHidden.f a0_0 a0_1 a0_2 a0_3 a0_4 a0_5 = some true := by
  simp only [laws_FnExactTurnHidden.f, laws_toHidden.f, laws_toChain.f, spec_TurnHidden.f, impl_TurnHidden.f, impl_TurnChain.f, laws_eqHidden.f, laws_eqChain.f, hdGood_eq, IsHidden_eq, IsChain_eq, Option.bind_some]
  by_cases h : ((1 ≤ a0_2 ∧ a0_2 ≤ 10) ∧ (0 ≤ a0_0 ∧ a0_0 ≤ a0_2) ∧ (0 ≤ a0_1 ∧ a0_1 ≤ a0_2)) ∧ (1 ≤ a0_5 ∧ a0_5 ≤ 10) ∧ (0 ≤ a0_3 ∧ a0_3 ≤ a0_5) ∧ (0 ≤ a0_4 ∧ a0_4 ≤ a0_5)
  · rw [decide_eq_true h, decide_eq_true h.1]; simp
  · rw [decide_eq_false h]; simp
end Go.Proofs.Ytfpbpiodoajpiaa.PureFnExactTurnHidden
