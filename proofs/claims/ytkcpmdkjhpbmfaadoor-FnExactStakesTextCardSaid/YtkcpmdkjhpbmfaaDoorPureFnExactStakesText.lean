/- The pure statement of FnExactStakesText: both sides write the same two numbers with the same word between. No condition. -/
import Derived.Test.YtkcpmdkjhpbmfaaDoorQFnExactStakesTextx2
import Derived.Test.YtkcpmdkjhpbmfaaDoorMath
import Derived.OpenShut
namespace Go.Proofs.YtkcpmdkjhpbmfaaDoor.PureFnExactStakesText
open Go Go.RowKit Go.Proofs.YtkcpmdkjhpbmfaaDoor.QFnExactStakesText Go.Proofs.YtkcpmdkjhpbmfaaDoorW.PrintWords Go.Proofs.YtkcpmdkjhpbmfaaDoorW.PrintLast Go.Proofs.YtkcpmdkjhpbmfaaDoorW.PrintMore
set_option linter.unusedVariables false
set_option linter.unusedSimpArgs false

theorem wrap_id {x : Int} (h : -9223372036854775808 ≤ x) (h' : x ≤ 9223372036854775807) : wrap64 x = x := by unfold wrap64; omega
theorem ite_dec (p q : Prop) [Decidable p] [Decidable q] : (if decide p = true then some (decide q) else some false) = some (decide (p ∧ q)) := by
  by_cases h : p <;> simp [h]
theorem some_dec {p q : Prop} [Decidable p] [Decidable q] (h : p ↔ q) : some (decide p) = some (decide q) := by rw [decide_eq_decide.2 h]
theorem l1In_eq (a b c : Int) : spec_l1In.f a b c = some (decide (b ≤ a ∧ a ≤ c)) := by
  unfold spec_l1In.f
  by_cases h : a ≥ b
  · rw [if_pos h]; simp [show b ≤ a from h]
  · rw [if_neg h]; simp; omega
theorem within_eq (a b c : Int) : impl_within.f a b c = some (decide (b ≤ a ∧ a ≤ c)) := by
  unfold impl_within.f
  by_cases h : a ≥ b
  · rw [if_pos h]; simp [show b ≤ a from h]
  · rw [if_neg h]; simp; omega
theorem skGood_eq (p g : Int) : spec_skGood.f p g = some (decide ((1 ≤ g ∧ g ≤ 16) ∧ (0 ≤ p ∧ p ≤ g))) := by
  unfold spec_skGood.f; simp only [l1In_eq, Option.bind_some]
  by_cases h1 : 1 ≤ g ∧ g ≤ 16 <;> simp [h1]
theorem AreStakes_eq (p g : Int) : impl_AreStakes.f p g = some (decide ((1 ≤ g ∧ g ≤ 16) ∧ (0 ≤ p ∧ p ≤ g))) := by
  unfold impl_AreStakes.f; simp only [within_eq, Option.bind_some]
  by_cases h1 : 1 ≤ g ∧ g ≤ 16 <;> simp [h1]

/-- A number in decimal. -/
def dig (n : Nat) : ByteArray := ⟨(Lib.decDigits n).toArray⟩
theorem dec_small {n : Nat} (h : n < 10) : Lib.decDigits n = [UInt8.ofNat (48 + n)] := by rw [Lib.decDigits, dif_pos h]
theorem dec_big {n : Nat} (h : ¬ n < 10) : Lib.decDigits n = Lib.decDigits (n / 10) ++ [UInt8.ofNat (48 + n % 10)] := by rw [Lib.decDigits, dif_neg h]
theorem dec_len : ∀ (d n : Nat), n < 10 ^ (d + 1) → (Lib.decDigits n).length ≤ d + 1
  | 0, n, h => by rw [dec_small (by simpa using h)]; simp
  | d + 1, n, h => by
    by_cases h10 : n < 10
    · rw [dec_small h10]; simp
    · rw [dec_big h10]
      have := dec_len d (n / 10) (by rw [Nat.pow_succ] at h; omega)
      simp; omega
theorem dig_size (d n : Nat) (h : n < 10 ^ (d + 1)) : (dig n).size ≤ d + 1 := by
  have := dec_len d n h
  unfold dig; simpa [ByteArray.size] using this
theorem one_digit (n : Nat) (h : n < 10) : strOfNums [(wrap64 (48 + (n : Int))) % 256] = ⟨#[UInt8.ofNat (48 + n)]⟩ := by
  rw [wrap_id (by omega) (by omega), show (48 + (n : Int)) % 256 = ((48 + n : Nat) : Int) by omega]; rfl
theorem bytes_app (a b : List UInt8) : (⟨a.toArray⟩ : ByteArray) ++ ⟨b.toArray⟩ = ⟨(a ++ b).toArray⟩ := by
  apply ByteArray.ext
  simp
theorem l1Num_at : ∀ (d n k : Nat), n < 10 ^ (d + 1) → d < 18 → d < k → spec_l1Num.f k (n : Int) = some (dig n)
  | d, n, k, h, hd, hk => by
    obtain ⟨k, rfl⟩ : ∃ m, k = m + 1 := ⟨k - 1, by omega⟩
    have hp : n < 10 ^ 18 := Nat.lt_of_lt_of_le h (Nat.pow_le_pow_right (by omega) (by omega))
    have e18 : 10 ^ 18 = 1000000000000000000 := by decide
    simp only [spec_l1Num.f]
    by_cases h10 : n < 10
    · rw [if_pos (by omega), one_digit n h10, dig, dec_small h10]
    · rw [if_neg (by omega)]
      have et : Int.tdiv (n : Int) 10 = ((n / 10 : Nat) : Int) := by rw [Int.tdiv_eq_ediv_of_nonneg (by omega)]; omega
      have em : Int.tmod (n : Int) 10 = ((n % 10 : Nat) : Int) := by rw [Int.tmod_eq_emod_of_nonneg (by omega)]; omega
      obtain ⟨d, rfl⟩ : ∃ m, d = m + 1 := ⟨d - 1, by
        have : d ≠ 0 := by rintro rfl; simp at h; omega
        omega⟩
      have h1 : n / 10 < 10 ^ (d + 1) := by rw [Nat.pow_succ] at h; omega
      rw [et, em, wrap_id (x := ((n / 10 : Nat) : Int)) (by omega) (by omega), l1Num_at d (n / 10) k h1 (by omega) (by omega)]
      simp only [Option.bind_some]
      rw [one_digit (n % 10) (by omega)]
      have hs := dig_size d (n / 10) h1
      have h2 : (⟨#[UInt8.ofNat (48 + n % 10)]⟩ : ByteArray).size = 1 := rfl
      rw [if_pos (by omega)]
      rw [dig, dig, dec_big h10, ← bytes_app]
theorem itoa_eq (n : Nat) (h : n < 100) : strconv_Itoa.f (n : Int) = some (dig n) := by
  unfold strconv_Itoa.f
  rw [if_pos (by omega)]; rfl
theorem num_two (k n : Nat) (h : n < 100) : spec_l1Num.f (k + 2) (n : Int) = some (dig n) := l1Num_at 1 n _ (by simpa using h) (by omega) (by omega)
theorem holds (a0_0 : Int) (a0_1 : Int) (w0_0 : (Lit.int .i64 a0_0).wf = true) (w0_1 : (Lit.int .i64 a0_1).wf = true) : ∃ k, laws_FnExactStakesText.f k a0_0 a0_1 = some true := by
  refine ⟨2, ?_⟩
  simp only [laws_FnExactStakesText.f, laws_toStakes.f, spec_StakesText.f, impl_StakesText.f, skGood_eq, AreStakes_eq, Option.bind_some, decide_eq_true_eq]
  by_cases h : (1 ≤ a0_1 ∧ a0_1 ≤ 16) ∧ 0 ≤ a0_0 ∧ a0_0 ≤ a0_1
  · obtain ⟨h1, h0⟩ := id h
    obtain ⟨n0, rfl⟩ : ∃ n : Nat, a0_0 = (n : Int) := ⟨a0_0.toNat, by omega⟩
    obtain ⟨n1, rfl⟩ : ∃ n : Nat, a0_1 = (n : Int) := ⟨a0_1.toNat, by omega⟩
    have s0 : (dig n0).size ≤ 2 := dig_size 1 n0 (by omega)
    have s1 : (dig n1).size ≤ 2 := dig_size 1 n1 (by omega)
    have p : (⟨#[111, 102]⟩ : ByteArray).size = 2 := rfl
    unfold spec_skText.f
    rw [if_pos h, if_pos h, num_two 0 n0 (by omega), num_two 0 n1 (by omega), itoa_eq n0 (by omega), itoa_eq n1 (by omega)]
    simp only [Option.bind_some, ByteArray.size_append, p]
    rw [if_pos (by omega), if_pos (by omega), if_pos (by omega), if_pos (by omega)]
    simp
  · rw [if_neg h, if_neg h]; simp
end Go.Proofs.YtkcpmdkjhpbmfaaDoor.PureFnExactStakesText
