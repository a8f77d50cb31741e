/- The pure statement of FnExactIsFairPlay. No condition. -/
import Derived.Test.YthiclneaehbhoaaPFnExactIsFairPlayx1
import Derived.Test.YthiclneaehbhoaaMath
import Derived.OpenShut
namespace Go.Proofs.Ythiclneaehbhoaa.PureFnExactIsFairPlay
open Go Go.RowKit Go.Proofs.Ythiclneaehbhoaa.PFnExactIsFairPlay Go.Proofs.YthiclneaehbhoaaW.PrintWords Go.Proofs.YthiclneaehbhoaaW.PrintLast Go.Proofs.YthiclneaehbhoaaW.PrintMore
set_option linter.unusedVariables false
set_option linter.unusedSimpArgs false

theorem wrap_id {x : Int} (h : -9223372036854775808 ≤ x) (h' : x ≤ 9223372036854775807) : wrap64 x = x := by unfold wrap64; omega
theorem ite_dec (p q : Prop) [Decidable p] [Decidable q] : (if decide p = true then some (decide q) else some false) = some (decide (p ∧ q)) := by
  by_cases h : p <;> simp [h]
theorem some_dec {p q : Prop} [Decidable p] [Decidable q] (h : p ↔ q) : some (decide p) = some (decide q) := by rw [decide_eq_decide.2 h]
theorem l1In_eq (a b c : Int) : spec_l1In.f a b c = some (decide (b ≤ a ∧ a ≤ c)) := by
  unfold spec_l1In.f
  by_cases h : a ≥ b
  · rw [if_pos h]; simp [show b ≤ a from h]
  · rw [if_neg h]; simp; omega
theorem within_eq (a b c : Int) : impl_within.f a b c = some (decide (b ≤ a ∧ a ≤ c)) := by
  unfold impl_within.f
  by_cases h : a ≥ b
  · rw [if_pos h]; simp [show b ≤ a from h]
  · rw [if_neg h]; simp; omega
theorem ptCoin_eq (h o : Int) : spec_ptCoin.f h o = some (decide ((2 ≤ o ∧ o ≤ 10) ∧ (1 ≤ h ∧ h ≤ o - 1))) := by
  unfold spec_ptCoin.f; simp only [l1In_eq, Option.bind_some]
  by_cases h1 : 2 ≤ o ∧ o ≤ 10
  · rw [wrap_id (x := o - 1) (by omega) (by omega)]; simp [h1]
  · simp [h1]
theorem IsCoin_eq (h o : Int) : impl_IsCoin.f h o = some (decide ((2 ≤ o ∧ o ≤ 10) ∧ (1 ≤ h ∧ h ≤ o - 1))) := by
  unfold impl_IsCoin.f; simp only [within_eq, Option.bind_some]
  by_cases h1 : 2 ≤ o ∧ o ≤ 10
  · rw [wrap_id (x := o - 1) (by omega) (by omega)]; simp [h1]
  · simp [h1]

theorem holds (a0_0 : Int) (a0_1 : Int) (a1 : Int) (a2 : Int) (w0_0 : (Lit.int .i64 a0_0).wf = true) (w0_1 : (Lit.int .i64 a0_1).wf = true) (w1 : (Lit.int .i64 a1).wf = true) (w2 : (Lit.int .i64 a2).wf = true) : laws_FnExactIsFairPlay.f a0_0 a0_1 a1 a2 = some true := by
  simp only [laws_FnExactIsFairPlay.f, laws_toCoin.f, spec_IsFairPlay.f, impl_IsFairPlay.f, ptCoin_eq, IsCoin_eq, l1In_eq, within_eq, Option.bind_some]
  by_cases h : (2 ≤ a0_1 ∧ a0_1 ≤ 10) ∧ (1 ≤ a0_0 ∧ a0_0 ≤ a0_1 - 1) <;> by_cases h1 : 0 ≤ a1 ∧ a1 ≤ 1000 <;> by_cases h2 : 0 ≤ a2 ∧ a2 ≤ 1000 <;> simp [h, h1, h2]
end Go.Proofs.Ythiclneaehbhoaa.PureFnExactIsFairPlay
