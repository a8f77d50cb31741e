/- The pure statement of FnExactIsClue. No condition. -/
import Derived.Test.YthiclneaehbhoaaPFnExactIsCluex1
import Derived.Test.YthiclneaehbhoaaMath
import Derived.OpenShut
namespace Go.Proofs.Ythiclneaehbhoaa.PureFnExactIsClue
open Go Go.RowKit Go.Proofs.Ythiclneaehbhoaa.PFnExactIsClue Go.Proofs.YthiclneaehbhoaaW.PrintWords Go.Proofs.YthiclneaehbhoaaW.PrintLast Go.Proofs.YthiclneaehbhoaaW.PrintMore
set_option linter.unusedVariables false
set_option linter.unusedSimpArgs false

theorem wrap_id {x : Int} (h : -9223372036854775808 ≤ x) (h' : x ≤ 9223372036854775807) : wrap64 x = x := by unfold wrap64; omega
theorem ite_dec (p q : Prop) [Decidable p] [Decidable q] : (if decide p = true then some (decide q) else some false) = some (decide (p ∧ q)) := by
  by_cases h : p <;> simp [h]
theorem some_dec {p q : Prop} [Decidable p] [Decidable q] (h : p ↔ q) : some (decide p) = some (decide q) := by rw [decide_eq_decide.2 h]
theorem l1In_eq (a b c : Int) : spec_l1In.f a b c = some (decide (b ≤ a ∧ a ≤ c)) := by
  unfold spec_l1In.f
  by_cases h : a ≥ b
  · rw [if_pos h]; simp [show b ≤ a from h]
  · rw [if_neg h]; simp; omega
theorem within_eq (a b c : Int) : impl_within.f a b c = some (decide (b ≤ a ∧ a ≤ c)) := by
  unfold impl_within.f
  by_cases h : a ≥ b
  · rw [if_pos h]; simp [show b ≤ a from h]
  · rw [if_neg h]; simp; omega

theorem clue_same (k : Nat) (of kd a b : Int) : ∃ r, spec_IsClue.f (k + 2) of kd a b = some r ∧ impl_IsClue.f (k + 2) of kd a b = some r := by
  refine ⟨decide ((1 ≤ of ∧ of ≤ 8) ∧ (0 ≤ a ∧ a ≤ 100) ∧ (0 ≤ b ∧ b ≤ 100) ∧ ((kd = 0 ∧ a = 0 ∧ b ≤ 1) ∨ ((kd = 1 ∨ kd = 2 ∨ kd = 5) ∧ a = 0) ∨ ((kd = 3 ∨ kd = 4) ∧ 1 ≤ b))), ?_, ?_⟩
  · simp only [spec_IsClue.f, spec_pzOf.f, spec_pzClue.f, spec_pzClue.j0, spec_pzClue.j1, l1In_eq, Option.bind_some]
    by_cases h1 : 1 ≤ of ∧ of ≤ 8
    · by_cases h2 : 0 ≤ a ∧ a ≤ 100
      · by_cases h3 : 0 ≤ b ∧ b ≤ 100
        · simp only [h1, h2, h3, decide_true, if_true, Bool.not_true, Bool.false_eq_true, if_false, Option.bind_some, true_and, and_self]
          by_cases k0 : kd = 0
          · subst k0; by_cases h4 : a = 0
            · subst h4; simp; omega
            · simp [h4]
          · by_cases k1 : kd = 1
            · subst k1; simp
              by_cases h4 : a = 0 <;> simp [h4]
            · by_cases k2 : kd = 2
              · subst k2; simp
                by_cases h4 : a = 0 <;> simp [h4]
              · by_cases k5 : kd = 5
                · subst k5; simp
                  by_cases h4 : a = 0 <;> simp [h4]
                · have k5' : (kd == 5) = false := by simpa using k5
                  by_cases k3 : kd = 3
                  · subst k3; simp; omega
                  · by_cases k4 : kd = 4
                    · subst k4; simp; omega
                    · simp [k0, k1, k2, k3, k4, k5]
        · simp [h1, h2, h3]
      · simp only [h1, h2, decide_true, decide_false, if_true, Bool.false_eq_true, if_false, Option.bind_some, and_self, true_and, false_and]
    · simp only [h1, decide_false, Bool.false_eq_true, if_false, false_and]
  · unfold impl_IsClue.f impl_isTwo.f
    by_cases k3 : kd = 3
    · rw [if_pos k3]; simp only [Option.bind_some, if_true, impl_IsClue.j0, within_eq, ite_dec]
      exact some_dec (by omega)
    · rw [if_neg k3]
      by_cases k4 : kd = 4
      · have e : (kd == 4) = true := by simpa using k4
        simp only [e, Option.bind_some, if_true, impl_IsClue.j0, within_eq, ite_dec]
        exact some_dec (by omega)
      · have e : (kd == 4) = false := by simpa using k4
        rw [e]; simp only [Option.bind_some, Bool.false_eq_true, if_false]
        by_cases k0 : kd = 0
        · rw [if_pos k0]; simp only [impl_IsClue.j0, within_eq, Option.bind_some, ite_dec]
          exact some_dec (by omega)
        · rw [if_neg k0]; simp only [impl_IsClue.j0, within_eq, Option.bind_some, ite_dec]
          exact some_dec (by omega)
theorem holds (a0 : Int) (a1_0 : Int) (a1_1 : Int) (a1_2 : Int) (w0 : (Lit.int .i64 a0).wf = true) (w1_0 : (Lit.int .i64 a1_0).wf = true) (w1_1 : (Lit.int .i64 a1_1).wf = true) (w1_2 : (Lit.int .i64 a1_2).wf = true) : ∃ k, laws_FnExactIsClue.f k a0 a1_0 a1_1 a1_2 = some true := by
  obtain ⟨r, h1, h2⟩ := clue_same 1 a0 a1_0 a1_1 a1_2
  refine ⟨3, ?_⟩
  simp only [laws_FnExactIsClue.f, laws_toClue.f, h1, h2, Option.bind_some, bne_self_eq_false, Bool.false_eq_true, if_false]
end Go.Proofs.Ythiclneaehbhoaa.PureFnExactIsClue
