/- The pure statement of FnExactMeanSigns. No condition. -/
import Derived.Test.YtfpbpiodoajpiaaQFnExactMeanSignsx6
import Derived.Test.YtfpbpiodoajpiaaMath
import Derived.OpenShut
namespace Go.Proofs.Ytfpbpiodoajpiaa.PureFnExactMeanSigns
open Go Go.RowKit Go.Proofs.Ytfpbpiodoajpiaa.QFnExactMeanSigns Go.Proofs.YtfpbpiodoajpiaaW.PrintWords Go.Proofs.YtfpbpiodoajpiaaW.PrintLast Go.Proofs.YtfpbpiodoajpiaaW.PrintMore
set_option linter.unusedVariables false
set_option linter.unusedSimpArgs false

theorem wrap_id {x : Int} (h : -9223372036854775808 ≤ x) (h' : x ≤ 9223372036854775807) : wrap64 x = x := by unfold wrap64; omega
theorem ite_dec (p q : Prop) [Decidable p] [Decidable q] : (if decide p = true then some (decide q) else some false) = some (decide (p ∧ q)) := by
  by_cases h : p <;> simp [h]
theorem some_dec {p q : Prop} [Decidable p] [Decidable q] (h : p ↔ q) : some (decide p) = some (decide q) := by rw [decide_eq_decide.2 h]
theorem l1In_eq (a b c : Int) : spec_l1In.f a b c = some (decide (b ≤ a ∧ a ≤ c)) := by
  unfold spec_l1In.f
  by_cases h : a ≥ b
  · rw [if_pos h]; simp [show b ≤ a from h]
  · rw [if_neg h]; simp; omega
theorem within_eq (a b c : Int) : impl_within.f a b c = some (decide (b ≤ a ∧ a ≤ c)) := by
  unfold impl_within.f
  by_cases h : a ≥ b
  · rw [if_pos h]; simp [show b ≤ a from h]
  · rw [if_neg h]; simp; omega
theorem cnGood_eq (a b c : Int) : spec_cnGood.f a b c = some (decide ((1 ≤ c ∧ c ≤ 10) ∧ (0 ≤ a ∧ a ≤ c) ∧ (0 ≤ b ∧ b ≤ c))) := by
  unfold spec_cnGood.f; simp only [l1In_eq, Option.bind_some]
  by_cases h : 1 ≤ c ∧ c ≤ 10 <;> by_cases h2 : 0 ≤ a ∧ a ≤ c <;> simp [h, h2]
theorem IsChain_eq (a b c : Int) : impl_IsChain.f a b c = some (decide ((1 ≤ c ∧ c ≤ 10) ∧ (0 ≤ a ∧ a ≤ c) ∧ (0 ≤ b ∧ b ≤ c))) := by
  unfold impl_IsChain.f; simp only [within_eq, Option.bind_some]
  by_cases h : 1 ≤ c ∧ c ≤ 10 <;> by_cases h2 : 0 ≤ a ∧ a ≤ c <;> simp [h, h2]
theorem hdGood_eq (a b c d e g : Int) : spec_hdGood.f a b c d e g = some (decide (((1 ≤ c ∧ c ≤ 10) ∧ (0 ≤ a ∧ a ≤ c) ∧ (0 ≤ b ∧ b ≤ c)) ∧ (1 ≤ g ∧ g ≤ 10) ∧ (0 ≤ d ∧ d ≤ g) ∧ (0 ≤ e ∧ e ≤ g))) := by
  unfold spec_hdGood.f; simp only [cnGood_eq, l1In_eq, Option.bind_some]
  by_cases h : (1 ≤ c ∧ c ≤ 10) ∧ (0 ≤ a ∧ a ≤ c) ∧ (0 ≤ b ∧ b ≤ c)
  · by_cases h1 : 1 ≤ g ∧ g ≤ 10 <;> by_cases h2 : 0 ≤ d ∧ d ≤ g <;> simp [h, h1, h2]
  · simp only [h, decide_false, false_and, Bool.false_eq_true, if_false]
theorem IsHidden_eq (a b c d e g : Int) : impl_IsHidden.f a b c d e g = some (decide (((1 ≤ c ∧ c ≤ 10) ∧ (0 ≤ a ∧ a ≤ c) ∧ (0 ≤ b ∧ b ≤ c)) ∧ (1 ≤ g ∧ g ≤ 10) ∧ (0 ≤ d ∧ d ≤ g) ∧ (0 ≤ e ∧ e ≤ g))) := by
  unfold impl_IsHidden.f; simp only [IsChain_eq, within_eq, Option.bind_some]
  by_cases h : (1 ≤ c ∧ c ≤ 10) ∧ (0 ≤ a ∧ a ≤ c) ∧ (0 ≤ b ∧ b ≤ c)
  · by_cases h1 : 1 ≤ g ∧ g ≤ 10 <;> by_cases h2 : 0 ≤ d ∧ d ≤ g <;> simp [h, h1, h2]
  · simp only [h, decide_false, false_and, Bool.false_eq_true, if_false]
theorem cnLow_l0 (x0 x1 : Int) (n : Nat) : ∀ (k : Nat) (a b : Int), 0 ≤ a → 0 ≤ b → b.toNat ≤ n → n < k → Int.gcd a b ≠ 0 →
    spec_cnLow.l0 k x0 x1 a b = some (wrap64 (Int.tdiv x0 (Int.gcd a b)), wrap64 (Int.tdiv x1 (Int.gcd a b))) := by
  induction n with
  | zero =>
    intro k a b ha hb hn hk hg
    obtain ⟨k, rfl⟩ : ∃ m, k = m + 1 := ⟨k - 1, by omega⟩
    obtain rfl : b = 0 := by omega
    have e : ((Int.gcd a 0 : Nat) : Int) = a := by rw [Int.gcd_zero_right]; omega
    have h0 : a ≠ 0 := by intro h; subst h; exact hg rfl
    simp only [spec_cnLow.l0]
    rw [if_neg (by omega), if_neg h0, e]
  | succ n ih =>
    intro k a b ha hb hn hk hg
    obtain ⟨k, rfl⟩ : ∃ m, k = m + 1 := ⟨k - 1, by omega⟩
    simp only [spec_cnLow.l0]
    by_cases h : b > 0
    · have h1 := Int.tmod_nonneg b ha
      have h2 := Int.tmod_lt_of_pos a h
      rw [if_pos h, if_neg (by omega), ih k b (a.tmod b) hb h1 (by omega) (by omega) (by rw [Mth.gcd_step]; exact hg), Mth.gcd_step]
    · obtain rfl : b = 0 := by omega
      have e : ((Int.gcd a 0 : Nat) : Int) = a := by rw [Int.gcd_zero_right]; omega
      have h0 : a ≠ 0 := by intro h; subst h; exact hg rfl
      rw [if_neg (by omega), if_neg h0, e]
theorem div_in {x g : Int} {M : Int} (hM : M ≤ 9223372036854775807) (h : -M ≤ x) (h' : x ≤ M) (hd : g ∣ x) (h0 : g ≠ 0) : wrap64 (Int.tdiv x g) = x / g := by
  rw [Int.tdiv_eq_ediv_of_dvd hd]
  obtain ⟨c, rfl⟩ := hd
  rw [Int.mul_ediv_cancel_left _ h0]
  have : c.natAbs ≤ (g * c).natAbs := by rw [Int.natAbs_mul]; exact Nat.le_mul_of_pos_left _ (by omega)
  exact wrap_id (by omega) (by omega)
theorem cnLow_eq (k : Nat) (a b : Int) (ha : 0 ≤ a) (ha' : a ≤ 9223372036854775807) (hb : 0 < b) (hb' : b ≤ 9223372036854775807) (hk : b.toNat < k) : spec_cnLow.f k a b = some (Mth.low a b) := by
  have hg := Int.gcd_pos_of_ne_zero_right a (b := b) (by omega)
  unfold spec_cnLow.f
  rw [cnLow_l0 a b b.toNat k a b ha (by omega) (Nat.le_refl _) hk (by omega)]
  rw [div_in (M := 9223372036854775807) (by omega) (by omega) ha' (Int.gcd_dvd_left a b) (by omega), div_in (M := 9223372036854775807) (by omega) (by omega) hb' (Int.gcd_dvd_right a b) (by omega)]
  unfold Mth.low Mth.dv
  rw [if_neg (by omega)]
theorem common_l0 (n : Nat) : ∀ (k : Nat) (a b : Int), 0 ≤ a → 0 ≤ b → b.toNat ≤ n → n < k → impl_common.l0 k a b = some (Int.gcd a b : Int) := by
  induction n with
  | zero =>
    intro k a b ha hb hn hk
    obtain ⟨k, rfl⟩ : ∃ m, k = m + 1 := ⟨k - 1, by omega⟩
    have hb0 : b = 0 := by omega
    simp only [impl_common.l0]
    rw [if_pos hb0, hb0, Int.gcd_zero_right]; congr 1; omega
  | succ n ih =>
    intro k a b ha hb hn hk
    obtain ⟨k, rfl⟩ : ∃ m, k = m + 1 := ⟨k - 1, by omega⟩
    simp only [impl_common.l0]
    by_cases h : b = 0
    · rw [if_pos h, h, Int.gcd_zero_right]; congr 1; omega
    · have h1 := Int.tmod_nonneg b ha
      have h2 := Int.tmod_lt_of_pos a (b := b) (by omega)
      rw [if_neg h, ih k b (a.tmod b) hb h1 (by omega) (by omega), Mth.gcd_step]
theorem mx_abs (a : Int) (h : -9223372036854775807 ≤ a) (h' : a ≤ 9223372036854775807) : mx a (wrap64 (-a)) = (a.natAbs : Int) := by
  rw [wrap_id (by omega) (by omega)]; unfold mx; split <;> omega
theorem common_eq (k : Nat) (a b : Int) (ha : -9223372036854775807 ≤ a) (ha' : a ≤ 9223372036854775807) (hb : -9223372036854775807 ≤ b) (hb' : b ≤ 9223372036854775807) (hk : b.natAbs < k) :
    impl_common.f k a b = some (Int.gcd a b : Int) := by
  unfold impl_common.f
  rw [mx_abs a ha ha', mx_abs b hb hb', common_l0 b.natAbs k _ _ (by omega) (by omega) (by omega) hk]
  simp [Int.gcd]
theorem lowest_eq (k : Nat) (a b : Int) (ha : -9223372036854775807 ≤ a) (ha' : a ≤ 9223372036854775807) (hb : -9223372036854775807 ≤ b) (hb' : b ≤ 9223372036854775807) (h0 : b ≠ 0) (hk : b.natAbs < k) :
    impl_lowest.f k a b = some (Mth.low a b) := by
  have hg := Int.gcd_pos_of_ne_zero_right a h0
  have hl : Int.gcd a b ≤ b.natAbs := Nat.le_of_dvd (by omega) (Int.gcd_dvd_natAbs_right a b)
  unfold impl_lowest.f
  rw [common_eq k a b ha ha' hb hb' hk]
  simp only [Option.bind_some]
  by_cases h : b < 0
  · have e : wrap64 (-((Int.gcd a b : Nat) : Int)) = -((Int.gcd a b : Nat) : Int) := wrap_id (by omega) (by omega)
    rw [if_pos h, e, if_neg (by omega), div_in (M := 9223372036854775807) (by omega) (by omega) ha' (Int.neg_dvd.2 (Int.gcd_dvd_left a b)) (by omega), div_in (M := 9223372036854775807) (by omega) (by omega) hb' (Int.neg_dvd.2 (Int.gcd_dvd_right a b)) (by omega)]
    unfold Mth.low Mth.dv
    rw [if_pos h]
  · rw [if_neg h, if_neg (by omega), div_in (M := 9223372036854775807) (by omega) (by omega) ha' (Int.gcd_dvd_left a b) (by omega), div_in (M := 9223372036854775807) (by omega) (by omega) hb' (Int.gcd_dvd_right a b) (by omega)]
    unfold Mth.low Mth.dv
    rw [if_neg h]

theorem low_bd {n d : Int} (h0 : 0 ≤ n) (hd : 0 < d) : (0 ≤ (Mth.low n d).1 ∧ (Mth.low n d).1 ≤ n) ∧ 0 < (Mth.low n d).2 ∧ (Mth.low n d).2 ≤ d :=
  ⟨⟨Mth.low_nonneg hd h0, Mth.low_num_le hd h0⟩, Mth.low_pos (by omega), Mth.low_den_le hd⟩
theorem cnLow_ev (a b : Int) (ha : 0 ≤ a) (ha' : a ≤ 9223372036854775807) (hb : 0 < b) (hb' : b ≤ 9223372036854775807) : Mth.Evn (fun k => spec_cnLow.f k a b) (Mth.low a b) :=
  ⟨b.toNat + 1, fun k hk => cnLow_eq k a b ha ha' hb hb' (by omega)⟩
theorem lowest_ev (a b : Int) (ha : -9223372036854775807 ≤ a) (ha' : a ≤ 9223372036854775807) (hb : -9223372036854775807 ≤ b) (hb' : b ≤ 9223372036854775807) (h0 : b ≠ 0) : Mth.Evn (fun k => impl_lowest.f k a b) (Mth.low a b) :=
  ⟨b.natAbs + 1, fun k hk => lowest_eq k a b ha ha' hb hb' h0 (by omega)⟩
theorem mul8 {a b : Int} (h0 : 0 ≤ a) (h : a ≤ 100000000) (k0 : 0 ≤ b) (k : b ≤ 100000000) : 0 ≤ a * b ∧ a * b ≤ 10000000000000000 := by
  have h1 := Int.mul_nonneg h0 k0
  have h2 := Int.mul_le_mul h k k0 (by omega)
  omega
theorem times_ev {N1 D1 N2 D2 : Int} (a0 : 0 ≤ N1) (a1 : N1 ≤ 100000000) (b0 : 0 < D1) (b1 : D1 ≤ 100000000) (c0 : 0 ≤ N2) (c1 : N2 ≤ 100000000) (d0 : 0 < D2) (d1 : D2 ≤ 100000000) :
    Mth.Evn (fun k => impl_frac_times.f k (Mth.low N1 D1).1 (Mth.low N1 D1).2 (Mth.low N2 D2).1 (Mth.low N2 D2).2) (Mth.low (N1 * N2) (D1 * D2)) := by
  obtain ⟨⟨x0, x1⟩, x2, x3⟩ := low_bd a0 b0
  obtain ⟨⟨y0, y1⟩, y2, y3⟩ := low_bd c0 d0
  have v1 := Mth.low_val (n := N1) (d := D1)
  have v2 := Mth.low_val (n := N2) (d := D2)
  generalize (Mth.low N1 D1).1 = p at *
  generalize (Mth.low N1 D1).2 = q at *
  generalize (Mth.low N2 D2).1 = r at *
  generalize (Mth.low N2 D2).2 = s at *
  have m1 := mul8 x0 (by omega) y0 (by omega)
  have m2 := mul8 (show 0 ≤ q by omega) (by omega) (show 0 ≤ s by omega) (by omega)
  have m3 := Int.mul_pos x2 y2
  have m4 := Int.mul_pos b0 d0
  have E : Mth.low (p * r) (q * s) = Mth.low (N1 * N2) (D1 * D2) := by
    refine Mth.low_cross (by omega) (by omega) ?_
    have t1 : p * r * (D1 * D2) = (p * D1) * (r * D2) := by ac_rfl
    rw [t1, v1, v2]; ac_rfl
  refine Mth.Evn.congr (g := fun k => (impl_lowest.f k (p * r) (q * s)).bind fun b => some (b.1, b.2)) (fun k => ?_) ?_
  · unfold impl_frac_times.f
    rw [wrap_id (x := p * r) (by omega) (by omega), wrap_id (x := q * s) (by omega) (by omega)]
  · rw [← E]
    exact (lowest_ev _ _ (by omega) (by omega) (by omega) (by omega) (by omega)).bind (Mth.Evn.now _)
theorem plus_ev {N1 D1 N2 D2 : Int} (a0 : 0 ≤ N1) (a1 : N1 ≤ 100000000) (b0 : 0 < D1) (b1 : D1 ≤ 100000000) (c0 : 0 ≤ N2) (c1 : N2 ≤ 100000000) (d0 : 0 < D2) (d1 : D2 ≤ 100000000) :
    Mth.Evn (fun k => impl_frac_plus.f k (Mth.low N1 D1).1 (Mth.low N1 D1).2 (Mth.low N2 D2).1 (Mth.low N2 D2).2) (Mth.low (N1 * D2 + N2 * D1) (D1 * D2)) := by
  obtain ⟨⟨x0, x1⟩, x2, x3⟩ := low_bd a0 b0
  obtain ⟨⟨y0, y1⟩, y2, y3⟩ := low_bd c0 d0
  have v1 := Mth.low_val (n := N1) (d := D1)
  have v2 := Mth.low_val (n := N2) (d := D2)
  generalize (Mth.low N1 D1).1 = p at *
  generalize (Mth.low N1 D1).2 = q at *
  generalize (Mth.low N2 D2).1 = r at *
  generalize (Mth.low N2 D2).2 = s at *
  have m1 := mul8 x0 (by omega) (show 0 ≤ s by omega) (by omega)
  have m5 := mul8 y0 (by omega) (show 0 ≤ q by omega) (by omega)
  have m2 := mul8 (show 0 ≤ q by omega) (by omega) (show 0 ≤ s by omega) (by omega)
  have m3 := Int.mul_pos x2 y2
  have m4 := Int.mul_pos b0 d0
  have E : Mth.low (p * s + r * q) (q * s) = Mth.low (N1 * D2 + N2 * D1) (D1 * D2) := by
    refine Mth.low_cross (by omega) (by omega) ?_
    rw [Int.add_mul, Int.add_mul]
    have t1 : p * s * (D1 * D2) = (p * D1) * (s * D2) := by ac_rfl
    have t2 : r * q * (D1 * D2) = (r * D2) * (q * D1) := by ac_rfl
    rw [t1, t2, v1, v2]
    have t3 : N1 * q * (s * D2) = N1 * D2 * (q * s) := by ac_rfl
    have t4 : N2 * s * (q * D1) = N2 * D1 * (q * s) := by ac_rfl
    rw [t3, t4]
  refine Mth.Evn.congr (g := fun k => (impl_lowest.f k (p * s + r * q) (q * s)).bind fun b => some (b.1, b.2)) (fun k => ?_) ?_
  · unfold impl_frac_plus.f
    rw [wrap_id (x := p * s) (by omega) (by omega), wrap_id (x := r * q) (by omega) (by omega), wrap_id (x := q * s) (by omega) (by omega), wrap_id (x := p * s + r * q) (by omega) (by omega)]
  · rw [← E]
    exact (lowest_ev _ _ (by omega) (by omega) (by omega) (by omega) (by omega)).bind (Mth.Evn.now _)
/-- A sum over one denominator. -/
theorem low_sum {A B D : Int} (hD : 0 < D) : Mth.low (A * D + B * D) (D * D) = Mth.low (A + B) D := by
  have := Int.mul_pos hD hD
  refine Mth.low_cross (by omega) (by omega) ?_
  rw [← Int.add_mul, Int.mul_assoc]
def lv (W D day : Int) : Int := if day = 100 then W else D
def oth (day : Int) : Int := if day = 100 then 119 else 100
def numl (W D O la : Int) : Nat → Int → Int
  | 0, day => if day = la then 1 else 0
  | n + 1, day => (O - lv W D day) * numl W D O la n day + lv W D day * numl W D O la n (oth day)
theorem numl_succ (W D O la : Int) (n : Nat) (day : Int) : numl W D O la (n + 1) day = (O - lv W D day) * numl W D O la n day + lv W D day * numl W D O la n (oth day) := rfl
theorem lv_bd {W D O : Int} (hW : 0 ≤ W) (hW' : W ≤ O) (hD : 0 ≤ D) (hD' : D ≤ O) (day : Int) : 0 ≤ lv W D day ∧ lv W D day ≤ O := by unfold lv; split <;> omega
theorem numl_bd {W D O : Int} (hW : 0 ≤ W) (hW' : W ≤ O) (hD : 0 ≤ D) (hD' : D ≤ O) (la : Int) : ∀ (n : Nat) (day : Int), 0 ≤ numl W D O la n day ∧ numl W D O la n day ≤ O ^ n
  | 0, day => by rw [numl, Int.pow_zero]; split <;> omega
  | n + 1, day => by
    have i1 := numl_bd hW hW' hD hD' la n day
    have i2 := numl_bd hW hW' hD hD' la n (oth day)
    have l := lv_bd hW hW' hD hD' day
    rw [numl, Int.pow_succ]
    generalize lv W D day = x at *
    have h1 := Int.mul_le_mul_of_nonneg_left i1.2 (show 0 ≤ O - x by omega)
    have h2 := Int.mul_le_mul_of_nonneg_left i2.2 l.1
    have h3 := Int.mul_nonneg (show 0 ≤ O - x by omega) i1.1
    have h4 := Int.mul_nonneg l.1 i2.1
    have e : (O - x) * O ^ n + x * O ^ n = O ^ n * O := by rw [← Int.add_mul, Int.sub_add_cancel, Int.mul_comm]
    omega
theorem ten_pow {O : Int} (h : 1 ≤ O) (h' : O ≤ 10) {n : Nat} (hn : n ≤ 5) : 1 ≤ O ^ n ∧ O ^ n ≤ 100000 := by
  have a := Mth.pow_pos' O h n
  have b := (Mth.pow_bd O 10 (by omega) h' n).2
  have c : (10 : Int) ^ n ≤ 10 ^ 5 := Mth.pow_le_M 10 (by omega) n 5 hn
  have d : (10 : Int) ^ 5 = 100000 := by decide
  omega
theorem next_ev {W D O : Int} (hO : 1 ≤ O) (hO' : O ≤ 10) (hW : 0 ≤ W) (hW' : W ≤ O) (hD : 0 ≤ D) (hD' : D ≤ O) (day : Int) : Mth.Evn (fun k => impl_Chain_next.f k W D O day day) (Mth.low (O - lv W D day) O) := by
  have l := lv_bd hW hW' hD hD' day
  refine Mth.Evn.congr (g := fun k => (impl_lowest.f k (O - lv W D day) O).bind fun b => some (b.1, b.2)) (fun k => ?_) ((lowest_ev _ _ (by omega) (by omega) (by omega) (by omega) (by omega)).bind (Mth.Evn.now _))
  unfold impl_Chain_next.f impl_Chain_leave.f
  rw [if_pos rfl]
  unfold lv at l ⊢
  by_cases h : day = 100
  · rw [if_pos h, if_pos h] at *; simp only [Option.bind_some]; rw [wrap_id (by omega) (by omega)]
  · rw [if_neg h, if_neg h] at *; simp only [Option.bind_some]; rw [wrap_id (by omega) (by omega)]
theorem next_ev' {W D O : Int} (hO : 1 ≤ O) (hO' : O ≤ 10) (hW : 0 ≤ W) (hW' : W ≤ O) (hD : 0 ≤ D) (hD' : D ≤ O) (day : Int) : Mth.Evn (fun k => impl_Chain_next.f k W D O day (oth day)) (Mth.low (lv W D day) O) := by
  have l := lv_bd hW hW' hD hD' day
  refine Mth.Evn.congr (g := fun k => (impl_lowest.f k (lv W D day) O).bind fun b => some (b.1, b.2)) (fun k => ?_) ((lowest_ev _ _ (by omega) (by omega) (by omega) (by omega) (by omega)).bind (Mth.Evn.now _))
  unfold impl_Chain_next.f impl_Chain_leave.f
  have ne : ¬ (day = oth day) := by unfold oth; split <;> omega
  rw [if_neg ne]
  unfold lv
  by_cases h : day = 100
  · rw [if_pos h, if_pos h]; rfl
  · rw [if_neg h, if_neg h]; rfl
theorem oth_eq (day : Int) : impl_otherDay.f day = some (oth day) := by unfold impl_otherDay.f oth; split <;> rfl
theorem later_ev {W D O : Int} (hO : 1 ≤ O) (hO' : O ≤ 10) (hW : 0 ≤ W) (hW' : W ≤ O) (hD : 0 ≤ D) (hD' : D ≤ O) (la : Int) : ∀ (n : Nat) (day : Int), n ≤ 5 →
    Mth.Evn (fun k => impl_Chain_later.f k W D O day la n) (Mth.low (numl W D O la n day) (O ^ n))
  | 0, day, _ => by
    have e1 : Mth.low 1 1 = (1, 1) := by decide
    have e0 : Mth.low 0 1 = (0, 1) := by decide
    refine (Mth.Evn.now _).step fun k => ?_
    simp only [impl_Chain_later.f, impl_whole.f, numl, Int.pow_zero, Option.bind_some]
    rw [if_pos (by rfl)]
    by_cases h : day = la
    · rw [if_pos h, if_pos h, e1]
    · rw [if_neg h, if_neg h, e0]
  | n + 1, day, hn => by
    have i1 := later_ev hO hO' hW hW' hD hD' la n day (by omega)
    have i2 := later_ev hO hO' hW hW' hD hD' la n (oth day) (by omega)
    have l := lv_bd hW hW' hD hD' day
    have b1 := numl_bd hW hW' hD hD' la n day
    have b2 := numl_bd hW hW' hD hD' la n (oth day)
    have t := ten_pow hO hO' (n := n) (by omega)
    have t' := ten_pow hO hO' (n := n + 1) hn
    have ew : wrap64 (((n + 1 : Nat) : Int) - 1) = (n : Int) := by rw [wrap_id (by omega) (by omega)]; omega
    refine Mth.Evn.step (fun k => by simp only [impl_Chain_later.f]; rw [if_neg (show ¬ ((n + 1 : Nat) : Int) = 0 by omega), ew, oth_eq]) ?_
    refine (next_ev hO hO' hW hW' hD hD' day).bind ?_
    refine i1.bind ?_
    refine (times_ev (by omega) (by omega) (by omega) (by omega) b1.1 (by omega) (by omega) (by omega)).bind ?_
    refine (next_ev' hO hO' hW hW' hD hD' day).bind ?_
    refine i2.bind ?_
    refine (times_ev l.1 (by omega) (by omega) (by omega) b2.1 (by omega) (by omega) (by omega)).bind ?_
    have eO : O * O ^ n = O ^ (n + 1) := by rw [Int.pow_succ, Int.mul_comm]
    have s1 := numl_bd hW hW' hD hD' la (n + 1) day
    rw [numl] at s1
    rw [eO]
    generalize hx : (O - lv W D day) * numl W D O la n day = x at *
    generalize hy : lv W D day * numl W D O la n (oth day) = y at *
    have x0 : 0 ≤ x := by rw [← hx]; exact Int.mul_nonneg (by omega) b1.1
    have y0 : 0 ≤ y := by rw [← hy]; exact Int.mul_nonneg l.1 b2.1
    refine (plus_ev x0 (by omega) (by omega) (by omega) y0 (by omega) (by omega) (by omega)).bind ?_
    rw [low_sum (by omega), numl, hx, hy]
    exact Mth.Evn.now _
/-- The chances go on from the front as well. -/
theorem numl_front (W D O : Int) : ∀ (n : Nat) (day : Int), day = 100 ∨ day = 119 →
    numl W D O 100 (n + 1) day = numl W D O 100 n day * (O - W) + numl W D O 119 n day * D ∧ numl W D O 119 (n + 1) day = numl W D O 100 n day * W + numl W D O 119 n day * (O - D)
  | 0, day, h => by
    rcases h with h | h <;> subst h <;> simp [numl, lv, oth]
  | n + 1, day, h => by
    have ho : oth day = 100 ∨ oth day = 119 := by unfold oth; split <;> simp
    have i1 := numl_front W D O n day h
    have i2 := numl_front W D O n (oth day) ho
    constructor
    · conv => lhs; rw [numl_succ W D O 100 (n + 1) day, i1.1, i2.1]
      conv => rhs; rw [numl_succ W D O 100 n day, numl_succ W D O 119 n day]
      simp only [Int.mul_add, Int.add_mul, Int.sub_mul, Int.mul_sub]
      ac_nf
      omega
    · conv => lhs; rw [numl_succ W D O 119 (n + 1) day, i1.2, i2.2]
      conv => rhs; rw [numl_succ W D O 100 n day, numl_succ W D O 119 n day]
      simp only [Int.mul_add, Int.add_mul, Int.sub_mul, Int.mul_sub]
      ac_nf
      omega
theorem cnLater_l0 {W D O : Int} (hO : 1 ≤ O) (hO' : O ≤ 10) (hW : 0 ≤ W) (hW' : W ≤ O) (hD : 0 ≤ D) (hD' : D ≤ O) (day : Int) (hday : day = 100 ∨ day = 119) : ∀ (d n : Nat), n + d ≤ 5 →
    Mth.Evn (fun k => spec_cnLater.l0 k d (numl W D O 100 n day) (numl W D O 119 n day) (O ^ n) W D O) (numl W D O 100 (n + d) day, numl W D O 119 (n + d) day, O ^ (n + d))
  | 0, n, _ => by
    refine (Mth.Evn.now _).step fun k => ?_
    simp only [spec_cnLater.l0]
    rw [if_neg (by omega)]; rfl
  | d + 1, n, h => by
    have ih := cnLater_l0 hO hO' hW hW' hD hD' day hday d (n + 1) (by omega)
    rw [show n + 1 + d = n + (d + 1) by omega] at ih
    have f := numl_front W D O n day hday
    have b1 := numl_bd hW hW' hD hD' 100 n day
    have b2 := numl_bd hW hW' hD hD' 119 n day
    have t := ten_pow hO hO' (n := n) (by omega)
    have t' := ten_pow hO hO' (n := n + 1) (by omega)
    have c1 := numl_bd hW hW' hD hD' 100 (n + 1) day
    have c2 := numl_bd hW hW' hD hD' 119 (n + 1) day
    have ew : wrap64 (((d + 1 : Nat) : Int) - 1) = (d : Int) := by rw [wrap_id (by omega) (by omega)]; omega
    have m1 := mul8 b1.1 (by omega) (show 0 ≤ O - W by omega) (by omega)
    have m2 := mul8 b2.1 (by omega) hD (by omega)
    have m3 := mul8 b1.1 (by omega) hW (by omega)
    have m4 := mul8 b2.1 (by omega) (show 0 ≤ O - D by omega) (by omega)
    refine ih.step fun k => ?_
    simp only [spec_cnLater.l0]
    rw [if_pos (by omega), ew, wrap_id (x := O - W) (by omega) (by omega), wrap_id (x := O - D) (by omega) (by omega), f.1, f.2]
    rw [f.1] at c1
    rw [f.2] at c2
    rw [wrap_id (x := numl W D O 100 n day * (O - W)) (by omega) (by omega), wrap_id (x := numl W D O 119 n day * D) (by omega) (by omega), wrap_id (x := numl W D O 100 n day * W) (by omega) (by omega), wrap_id (x := numl W D O 119 n day * (O - D)) (by omega) (by omega)]
    rw [wrap_id (x := numl W D O 100 n day * (O - W) + numl W D O 119 n day * D) (by omega) (by omega), wrap_id (x := numl W D O 100 n day * W + numl W D O 119 n day * (O - D)) (by omega) (by omega)]
    rw [Int.pow_succ] at t' ⊢
    rw [wrap_id (x := O ^ n * O) (by omega) (by omega)]
theorem cnLater_ev {W D O : Int} (hO : 1 ≤ O) (hO' : O ≤ 10) (hW : 0 ≤ W) (hW' : W ≤ O) (hD : 0 ≤ D) (hD' : D ≤ O) (day : Int) (hday : day = 100 ∨ day = 119) (n : Nat) (hn : n ≤ 5) :
    Mth.Evn (fun k => spec_cnLater.f k W D O day n) (numl W D O 100 n day, numl W D O 119 n day, O ^ n) := by
  have h := cnLater_l0 hO hO' hW hW' hD hD' day hday n 0 (by omega)
  rw [Nat.zero_add] at h
  unfold spec_cnLater.f
  rcases hday with e | e <;> subst e
  · rw [show numl W D O 100 0 100 = 1 by simp [numl], show numl W D O 119 0 100 = 0 by simp [numl], Int.pow_zero] at h
    refine Mth.Evn.congr (fun k => if_neg (by decide)) ?_
    exact Mth.Evn.step (fun k => by simp only [spec_cnLater.j0]) h
  · rw [show numl W D O 100 0 119 = 0 by simp [numl], show numl W D O 119 0 119 = 1 by simp [numl], Int.pow_zero] at h
    refine Mth.Evn.congr (fun k => if_pos rfl) ?_
    exact Mth.Evn.step (fun k => by simp only [spec_cnLater.j0]) h

/-- What a day of number n adds, in parts of 2 O^n per: first a dry day, then a wet one. -/
def add1 (W D O a b : Int) (n : Nat) (day : Int) : Int := numl W D O 100 n day * a + numl W D O 119 n day * b
/-- The sum behind so many days, in parts of 2 O^5 per. -/
def tot (W D O a b : Int) : Nat → Int
  | 0 => 0
  | n + 1 => tot W D O a b n + (add1 W D O a b n 100 + add1 W D O a b n 119) * O ^ (5 - n)
theorem numl_sum {W D O : Int} : ∀ (n : Nat) (day : Int), day = 100 ∨ day = 119 → numl W D O 100 n day + numl W D O 119 n day = O ^ n
  | 0, day, h => by rcases h with h | h <;> subst h <;> simp [numl]
  | n + 1, day, h => by
    have ho : oth day = 100 ∨ oth day = 119 := by unfold oth; split <;> simp
    have i1 := numl_sum (W := W) (D := D) (O := O) n day h
    have i2 := numl_sum (W := W) (D := D) (O := O) n (oth day) ho
    have e : numl W D O 100 (n + 1) day + numl W D O 119 (n + 1) day = (O - lv W D day) * (numl W D O 100 n day + numl W D O 119 n day) + lv W D day * (numl W D O 100 n (oth day) + numl W D O 119 n (oth day)) := by
      rw [numl, numl]; simp only [Int.mul_add]; omega
    rw [e, i1, i2, ← Int.add_mul, Int.sub_add_cancel, Int.pow_succ, Int.mul_comm]
section
variable {W D O a b P : Int} (hO : 1 ≤ O) (hO' : O ≤ 10) (hW : 0 ≤ W) (hW' : W ≤ O) (hD : 0 ≤ D) (hD' : D ≤ O) (hP : 1 ≤ P) (hP' : P ≤ 10) (ha : 0 ≤ a) (ha' : a ≤ P) (hb : 0 ≤ b) (hb' : b ≤ P)
include hO hO' hW hW' hD hD' hP hP' ha ha' hb hb'
theorem add1_bd (n : Nat) (day : Int) (h : day = 100 ∨ day = 119) : 0 ≤ add1 W D O a b n day ∧ add1 W D O a b n day ≤ O ^ n * P := by
  have _u := And.intro hO (And.intro hO' (And.intro hP hP'))
  have b1 := numl_bd hW hW' hD hD' 100 n day
  have b2 := numl_bd hW hW' hD hD' 119 n day
  have s := numl_sum (W := W) (D := D) (O := O) n day h
  unfold add1
  rw [← s, Int.add_mul]
  have h1 := Int.mul_le_mul_of_nonneg_left ha' b1.1
  have h2 := Int.mul_le_mul_of_nonneg_left hb' b2.1
  have h3 := Int.mul_nonneg b1.1 ha
  have h4 := Int.mul_nonneg b2.1 hb
  omega
theorem tot_bd : ∀ n : Nat, n ≤ 6 → 0 ≤ tot W D O a b n ∧ tot W D O a b n ≤ n * (2 * (O ^ 5 * P))
  | 0, _ => by simp [tot]
  | n + 1, h => by
    have ih := tot_bd n (by omega)
    have a1 := add1_bd hO hO' hW hW' hD hD' hP hP' ha ha' hb hb' n 100 (.inl rfl)
    have a2 := add1_bd hO hO' hW hW' hD hD' hP hP' ha ha' hb hb' n 119 (.inr rfl)
    have t := ten_pow hO hO' (n := 5 - n) (by omega)
    rw [tot]
    generalize add1 W D O a b n 100 = x at *
    generalize add1 W D O a b n 119 = y at *
    have e : O ^ 5 = O ^ n * O ^ (5 - n) := by rw [← Int.pow_add]; congr 1; omega
    have h1 := Int.mul_le_mul_of_nonneg_right (show x + y ≤ 2 * (O ^ n * P) by omega) (show 0 ≤ O ^ (5 - n) by omega)
    have h2 := Int.mul_nonneg (show 0 ≤ x + y by omega) (show 0 ≤ O ^ (5 - n) by omega)
    have e2 : 2 * (O ^ n * P) * O ^ (5 - n) = 2 * (O ^ 5 * P) := by rw [e]; ac_rfl
    have e3 : ((n + 1 : Nat) : Int) * (2 * (O ^ 5 * P)) = n * (2 * (O ^ 5 * P)) + 2 * (O ^ 5 * P) := by rw [Int.natCast_succ, Int.add_mul, Int.one_mul]
    omega
end

theorem step_low {S A E D M : Int} (hD : 0 < D) (hM : 0 < M) (h : M = D * E) : Mth.low (S * D + A * M) (M * D) = Mth.low (S + A * E) M := by
  have hp := Int.mul_pos hM hD
  refine Mth.low_cross (by omega) (by omega) ?_
  rw [Int.add_mul, Int.add_mul]
  have e1 : S * D * M = S * (M * D) := by ac_rfl
  have e2 : A * M * M = A * E * (M * D) := by
    conv => lhs; rw [h]
    conv => rhs; rw [h]
    ac_rfl
  rw [e1, e2]
theorem cnPlus_ev {N1 D1 N2 D2 : Int} (a0 : 0 ≤ N1) (a1 : N1 ≤ 100000000) (b0 : 0 < D1) (b1 : D1 ≤ 100000000) (c0 : 0 ≤ N2) (c1 : N2 ≤ 100000000) (d0 : 0 < D2) (d1 : D2 ≤ 100000000) :
    Mth.Evn (fun k => spec_cnLow.f k (wrap64 ((wrap64 ((Mth.low N1 D1).1 * (Mth.low N2 D2).2)) + (wrap64 ((Mth.low N2 D2).1 * (Mth.low N1 D1).2)))) (wrap64 ((Mth.low N1 D1).2 * (Mth.low N2 D2).2))) (Mth.low (N1 * D2 + N2 * D1) (D1 * D2)) := by
  obtain ⟨⟨x0, x1⟩, x2, x3⟩ := low_bd a0 b0
  obtain ⟨⟨y0, y1⟩, y2, y3⟩ := low_bd c0 d0
  have v1 := Mth.low_val (n := N1) (d := D1)
  have v2 := Mth.low_val (n := N2) (d := D2)
  generalize (Mth.low N1 D1).1 = p at *
  generalize (Mth.low N1 D1).2 = q at *
  generalize (Mth.low N2 D2).1 = r at *
  generalize (Mth.low N2 D2).2 = s at *
  have m1 := mul8 x0 (by omega) (show 0 ≤ s by omega) (by omega)
  have m5 := mul8 y0 (by omega) (show 0 ≤ q by omega) (by omega)
  have m2 := mul8 (show 0 ≤ q by omega) (by omega) (show 0 ≤ s by omega) (by omega)
  have m3 := Int.mul_pos x2 y2
  have m4 := Int.mul_pos b0 d0
  have E : Mth.low (p * s + r * q) (q * s) = Mth.low (N1 * D2 + N2 * D1) (D1 * D2) := by
    refine Mth.low_cross (by omega) (by omega) ?_
    rw [Int.add_mul, Int.add_mul]
    have t1 : p * s * (D1 * D2) = (p * D1) * (s * D2) := by ac_rfl
    have t2 : r * q * (D1 * D2) = (r * D2) * (q * D1) := by ac_rfl
    rw [t1, t2, v1, v2]
    have t3 : N1 * q * (s * D2) = N1 * D2 * (q * s) := by ac_rfl
    have t4 : N2 * s * (q * D1) = N2 * D1 * (q * s) := by ac_rfl
    rw [t3, t4]
  rw [wrap_id (x := p * s) (by omega) (by omega), wrap_id (x := r * q) (by omega) (by omega), wrap_id (x := q * s) (by omega) (by omega), wrap_id (x := p * s + r * q) (by omega) (by omega), ← E]
  exact cnLow_ev _ _ (by omega) (by omega) (by omega) (by omega)
section
variable {W D O a b P : Int} (hO : 1 ≤ O) (hO' : O ≤ 10) (hW : 0 ≤ W) (hW' : W ≤ O) (hD : 0 ≤ D) (hD' : D ≤ O) (hP : 1 ≤ P) (hP' : P ≤ 10) (ha : 0 ≤ a) (ha' : a ≤ P) (hb : 0 ≤ b) (hb' : b ≤ P)
include hO hO' hW hW' hD hD' hP hP' ha ha' hb hb'
theorem parts (n : Nat) (hn : n ≤ 5) : 0 < O ^ n * P ∧ O ^ n * P ≤ 1000000 ∧ O ^ 5 * P * 2 = O ^ n * P * 2 * O ^ (5 - n) := by
  have _u := And.intro hW (And.intro hW' (And.intro hD (And.intro hD' (And.intro ha (And.intro ha' (And.intro hb hb'))))))
  have t := ten_pow hO hO' (n := n) hn
  have h1 := Int.mul_pos (show 0 < O ^ n by omega) (show 0 < P by omega)
  have h2 := Int.mul_le_mul t.2 hP' (by omega) (by omega)
  have e : O ^ 5 = O ^ n * O ^ (5 - n) := by rw [← Int.pow_add]; congr 1; omega
  refine ⟨h1, by omega, ?_⟩
  rw [e]; ac_rfl
theorem spec_l0 (m : Nat) (hm : m ≤ 6) : ∀ d n : Nat, n + d = m →
    Mth.Evn (fun k => spec_MeanSigns.l0 k m (Mth.low (tot W D O a b n) (O ^ 5 * P * 2)).1 (Mth.low (tot W D O a b n) (O ^ 5 * P * 2)).2 n W D O a b P) ((Mth.low (tot W D O a b m) (O ^ 5 * P * 2)).1, (Mth.low (tot W D O a b m) (O ^ 5 * P * 2)).2, true)
  | 0, n, h => by
    obtain rfl : n = m := by omega
    refine (Mth.Evn.now _).step fun k => ?_
    simp only [spec_MeanSigns.l0]
    rw [if_neg (by omega)]
  | d + 1, n, h => by
    have ih := spec_l0 m hm d (n + 1) (by omega)
    have hn5 : n ≤ 5 := by omega
    have tb := tot_bd hO hO' hW hW' hD hD' hP hP' ha ha' hb hb' n (by omega)
    have t := ten_pow hO hO' (n := n) (by omega)
    have b1 := numl_bd hW hW' hD hD' 100 n 100
    have b2 := numl_bd hW hW' hD hD' 119 n 100
    have b3 := numl_bd hW hW' hD hD' 100 n 119
    have b4 := numl_bd hW hW' hD hD' 119 n 119
    have a1 := add1_bd hO hO' hW hW' hD hD' hP hP' ha ha' hb hb' n 100 (.inl rfl)
    have a2 := add1_bd hO hO' hW hW' hD hD' hP hP' ha ha' hb hb' n 119 (.inr rfl)
    obtain ⟨p1, p2, p3⟩ := parts hO hO' hW hW' hD hD' hP hP' ha ha' hb hb' n (by omega)
    obtain ⟨q1, q2, -⟩ := parts hO hO' hW hW' hD hD' hP hP' ha ha' hb hb' 5 (by omega)
    have eA : (numl W D O 100 n 100 + numl W D O 100 n 119) * a + (numl W D O 119 n 100 + numl W D O 119 n 119) * b = add1 W D O a b n 100 + add1 W D O a b n 119 := by
      unfold add1; rw [Int.add_mul, Int.add_mul]; omega
    have m1 := mul8 (show 0 ≤ numl W D O 100 n 100 + numl W D O 100 n 119 by omega) (by omega) ha (by omega)
    have m2 := mul8 (show 0 ≤ numl W D O 119 n 100 + numl W D O 119 n 119 by omega) (by omega) hb (by omega)
    have eP : 2 * O ^ n * P = O ^ n * P * 2 := by ac_rfl
    have ew : wrap64 ((n : Int) + 1) = ((n + 1 : Nat) : Int) := by rw [wrap_id (by omega) (by omega)]; omega
    refine Mth.Evn.step (fun k => by simp only [spec_MeanSigns.l0]; rw [if_pos (by omega)]) ?_
    have c1 := cnLater_ev hO hO' hW hW' hD hD' 100 (.inl rfl) n hn5
    have c2 := cnLater_ev hO hO' hW hW' hD hD' 119 (.inr rfl) n hn5
    refine c1.bind ?_
    refine c2.bind ?_
    dsimp only
    rw [wrap_id (x := numl W D O 100 n 100 + numl W D O 100 n 119) (by omega) (by omega), wrap_id (x := numl W D O 119 n 100 + numl W D O 119 n 119) (by omega) (by omega),
      wrap_id (x := (numl W D O 100 n 100 + numl W D O 100 n 119) * a) (by omega) (by omega), wrap_id (x := (numl W D O 119 n 100 + numl W D O 119 n 119) * b) (by omega) (by omega), eA,
      wrap_id (x := 2 * O ^ n) (by omega) (by omega), wrap_id (x := 2 * O ^ n * P) (by omega) (by omega), eP, wrap_id (x := add1 W D O a b n 100 + add1 W D O a b n 119) (by omega) (by omega)]
    refine (cnLow_ev _ _ (by omega) (by omega) (by omega) (by omega)).bind ?_
    have hn6 : (n : Int) * (2 * (O ^ 5 * P)) ≤ 5 * (2 * 1000000) := Int.mul_le_mul (Int.ofNat_le.2 hn5) (Int.mul_le_mul_of_nonneg_left q2 (by decide)) (Int.mul_nonneg (by decide) (Int.le_of_lt q1)) (by decide)
    have g1 : 0 < O ^ 5 * P * 2 := by omega
    have g2 : O ^ 5 * P * 2 ≤ 100000000 := by omega
    have g3 : 0 < O ^ n * P * 2 := by omega
    have g4 : O ^ n * P * 2 ≤ 100000000 := by omega
    have g5 : tot W D O a b n ≤ 100000000 := by omega
    have g6 : 0 ≤ add1 W D O a b n 100 + add1 W D O a b n 119 := by omega
    have g7 : add1 W D O a b n 100 + add1 W D O a b n 119 ≤ 100000000 := by omega
    have c4 := cnPlus_ev tb.1 g5 g1 g2 g6 g7 g3 g4
    rw [step_low g3 g1 p3] at c4
    rw [tot] at ih
    refine c4.bind ?_
    rw [ew]
    exact ih
theorem impl_round (n : Nat) (hn : n ≤ 5) (day : Int) (hday : day = 100 ∨ day = 119) (S : Int) (S0 : 0 ≤ S) (S1 : S ≤ 20000000) {α : Type} (g : Nat → Int × Int → Option α) (r : α)
    (hg : Mth.Evn (fun k => g k (Mth.low (S + add1 W D O a b n day * O ^ (5 - n)) (O ^ 5 * P * 2))) r) :
    Mth.Evn (fun k => (impl_Chain_later.f k W D O day 100 n).bind fun bt202 => ((impl_lowest.f k a P).bind fun bt204 => ((impl_frac_times.f k bt202.1 bt202.2 bt204.1 bt204.2).bind fun bt206 => ((impl_Chain_later.f k W D O day 119 n).bind fun bt209 => ((impl_lowest.f k b P).bind fun bt211 => ((impl_frac_times.f k bt209.1 bt209.2 bt211.1 bt211.2).bind fun bt213 => ((impl_frac_plus.f k bt206.1 bt206.2 bt213.1 bt213.2).bind fun bt216 => ((impl_half.f).bind fun bt218 => ((impl_frac_times.f k bt216.1 bt216.2 bt218.1 bt218.2).bind fun bt220 => ((impl_frac_plus.f k (Mth.low S (O ^ 5 * P * 2)).1 (Mth.low S (O ^ 5 * P * 2)).2 bt220.1 bt220.2).bind fun bt222 => g k bt222)))))))))) r := by
  have t := ten_pow hO hO' (n := n) hn
  have b1 := numl_bd hW hW' hD hD' 100 n day
  have b2 := numl_bd hW hW' hD hD' 119 n day
  have a1 := add1_bd hO hO' hW hW' hD hD' hP hP' ha ha' hb hb' n day hday
  obtain ⟨p1, p2, p3⟩ := parts hO hO' hW hW' hD hD' hP hP' ha ha' hb hb' n hn
  obtain ⟨q1, q2, -⟩ := parts hO hO' hW hW' hD hD' hP hP' ha ha' hb hb' 5 (by omega)
  have m1 := mul8 b1.1 (by omega) ha (by omega)
  have m2 := mul8 b2.1 (by omega) hb (by omega)
  have u : add1 W D O a b n day = numl W D O 100 n day * a + numl W D O 119 n day * b := rfl
  have n1 : numl W D O 100 n day ≤ 100000000 := by omega
  have n2 : numl W D O 119 n day ≤ 100000000 := by omega
  have n3 : 0 < O ^ n := by omega
  have n4 : O ^ n ≤ 100000000 := by omega
  have n5 : a ≤ 100000000 := by omega
  have n6 : b ≤ 100000000 := by omega
  have n7 : 0 < P := by omega
  have n8 : P ≤ 100000000 := by omega
  have n9 : numl W D O 100 n day * a ≤ 100000000 := by
    have := Int.mul_le_mul (show numl W D O 100 n day ≤ 100000 by omega) (show a ≤ 10 by omega) ha (by omega)
    omega
  have n10 : numl W D O 119 n day * b ≤ 100000000 := by
    have := Int.mul_le_mul (show numl W D O 119 n day ≤ 100000 by omega) (show b ≤ 10 by omega) hb (by omega)
    omega
  have n11 : O ^ n * P ≤ 100000000 := by omega
  have n12 : add1 W D O a b n day ≤ 100000000 := by omega
  have g1 : 0 < O ^ 5 * P * 2 := by omega
  have g2 : O ^ 5 * P * 2 ≤ 100000000 := by omega
  have g3 : 0 < O ^ n * P * 2 := by omega
  have g4 : O ^ n * P * 2 ≤ 100000000 := by omega
  have g5 : S ≤ 100000000 := by omega
  have c1 := later_ev hO hO' hW hW' hD hD' 100 n day hn
  have c2 := lowest_ev a P (by omega) (by omega) (by omega) (by omega) (by omega)
  have c3 := times_ev b1.1 n1 n3 n4 ha n5 n7 n8
  have c4 := later_ev hO hO' hW hW' hD hD' 119 n day hn
  have c5 := lowest_ev b P (by omega) (by omega) (by omega) (by omega) (by omega)
  have c6 := times_ev b2.1 n2 n3 n4 hb n6 n7 n8
  have c7 := plus_ev m1.1 n9 p1 n11 m2.1 n10 p1 n11
  rw [low_sum p1, ← u] at c7
  have e12 : Mth.low 1 2 = ((1 : Int), (2 : Int)) := by decide
  have c8 := times_ev (N2 := 1) (D2 := 2) a1.1 n12 p1 n11 (by omega) (by omega) (by omega) (by omega)
  rw [Int.mul_one, e12] at c8
  have c9 := plus_ev S0 g5 g1 g2 a1.1 n12 g3 g4
  rw [step_low g3 g1 p3] at c9
  have ch : impl_half.f = some (1, 2) := by rfl
  rw [ch]
  simp only [Option.bind_some]
  refine c1.bind ?_
  refine c2.bind ?_
  refine c3.bind ?_
  refine c4.bind ?_
  refine c5.bind ?_
  refine c6.bind ?_
  refine c7.bind ?_
  refine c8.bind ?_
  refine c9.bind ?_
  exact hg
theorem impl_l0 (m : Nat) (hm : m ≤ 6) : ∀ d n : Nat, n + d = m →
    Mth.Evn (fun k => impl_MeanSigns.l0 k m n W D O a b P (Mth.low (tot W D O a b n) (O ^ 5 * P * 2)).1 (Mth.low (tot W D O a b n) (O ^ 5 * P * 2)).2) ((Mth.low (tot W D O a b m) (O ^ 5 * P * 2)).1, (Mth.low (tot W D O a b m) (O ^ 5 * P * 2)).2, true)
  | 0, n, h => by
    obtain rfl : n = m := by omega
    refine (Mth.Evn.now _).step fun k => ?_
    simp only [impl_MeanSigns.l0, impl_frac_told.f, Option.bind_some]
    rw [if_neg (by omega)]
  | d + 1, n, h => by
    have hlt : (n : Int) < (m : Int) := by omega
    have hn5 : n ≤ 5 := by omega
    have ih := impl_l0 m hm d (n + 1) (by omega)
    have tb := tot_bd hO hO' hW hW' hD hD' hP hP' ha ha' hb hb' n (by omega)
    have tb' := tot_bd hO hO' hW hW' hD hD' hP hP' ha ha' hb hb' (n + 1) (by omega)
    have a1 := add1_bd hO hO' hW hW' hD hD' hP hP' ha ha' hb hb' n 100 (.inl rfl)
    have a2 := add1_bd hO hO' hW hW' hD hD' hP hP' ha ha' hb hb' n 119 (.inr rfl)
    have t5 := ten_pow hO hO' (n := 5 - n) (by omega)
    have w1 := Int.mul_nonneg a1.1 (show 0 ≤ O ^ (5 - n) by omega)
    have w2 := Int.mul_nonneg a2.1 (show 0 ≤ O ^ (5 - n) by omega)
    obtain ⟨q1, q2, -⟩ := parts hO hO' hW hW' hD hD' hP hP' ha ha' hb hb' 5 (by omega)
    have hn6 : ((n + 1 : Nat) : Int) * (2 * (O ^ 5 * P)) ≤ 6 * (2 * 1000000) := Int.mul_le_mul (Int.ofNat_le.2 (Nat.succ_le_succ hn5)) (Int.mul_le_mul_of_nonneg_left q2 (by decide)) (Int.mul_nonneg (by decide) (Int.le_of_lt q1)) (by decide)
    have eT : tot W D O a b (n + 1) = tot W D O a b n + add1 W D O a b n 100 * O ^ (5 - n) + add1 W D O a b n 119 * O ^ (5 - n) := by rw [tot, Int.add_mul]; omega
    have ew : wrap64 ((n : Int) + 1) = ((n + 1 : Nat) : Int) := by rw [wrap_id (by omega) (by omega)]; omega
    have r0 : rd [100, 119] 0 = 100 := by decide
    have r1 : rd [100, 119] 1 = 119 := by decide
    have l2 : (([100, 119] : List Int).length : Int) = 2 := rfl
    have w0 : wrap64 (0 + 1) = 1 := (wrap_id (by omega) (by omega)).trans (by omega)
    have w1' : wrap64 (1 + 1) = 2 := (wrap_id (by omega) (by omega)).trans (by omega)
    refine Mth.Evn.step (g := fun k => impl_MeanSigns.l1 k n m n [100, 119] 2 0 W D O a b P (Mth.low (tot W D O a b n) (O ^ 5 * P * 2)).1 (Mth.low (tot W D O a b n) (O ^ 5 * P * 2)).2) (fun k => by simp only [impl_MeanSigns.l0]; rw [if_pos hlt]; rfl) ?_
    refine Mth.Evn.step (fun k => by simp only [impl_MeanSigns.l1]; rw [if_pos (show (0 : Int) < 2 by decide), if_pos (show (0 : Int) ≤ 0 by decide), l2, if_pos (show (0 : Int) < 2 by decide), r0, w0]) ?_
    have z2 : 0 ≤ tot W D O a b n + add1 W D O a b n 100 * O ^ (5 - n) := Int.add_nonneg tb.1 w1
    have z3 : tot W D O a b n + add1 W D O a b n 100 * O ^ (5 - n) ≤ 20000000 := by
      refine Int.le_trans (Int.le_add_of_nonneg_right w2) ?_
      rw [← eT]
      exact Int.le_trans tb'.2 (Int.le_trans hn6 (by decide))
    have z1 : tot W D O a b n ≤ 20000000 := Int.le_trans (Int.le_add_of_nonneg_right w1) z3
    refine impl_round hO hO' hW hW' hD hD' hP hP' ha ha' hb hb' n hn5 100 (.inl rfl) (tot W D O a b n) tb.1 z1 (fun k bt222 => impl_MeanSigns.l1 k n m n [100, 119] 2 1 W D O a b P bt222.1 bt222.2) _ ?_
    refine Mth.Evn.step (fun k => by simp only [impl_MeanSigns.l1]; rw [if_pos (show (1 : Int) < 2 by decide), if_pos (show (0 : Int) ≤ 1 by decide), l2, if_pos (show (1 : Int) < 2 by decide), r1, w1']) ?_
    refine impl_round hO hO' hW hW' hD hD' hP hP' ha ha' hb hb' n hn5 119 (.inr rfl) (tot W D O a b n + add1 W D O a b n 100 * O ^ (5 - n)) z2 z3 (fun k bt222 => impl_MeanSigns.l1 k n m n [100, 119] 2 2 W D O a b P bt222.1 bt222.2) _ ?_
    refine Mth.Evn.step (fun k => by simp only [impl_MeanSigns.l1]; rw [if_neg (show ¬ (2 : Int) < 2 by decide), ew]) ?_
    rw [← eT]
    exact ih
end
theorem holds (a0_0 : Int) (a0_1 : Int) (a0_2 : Int) (a0_3 : Int) (a0_4 : Int) (a0_5 : Int) (a1 : Int) (w0_0 : (Lit.int .i64 a0_0).wf = true) (w0_1 : (Lit.int .i64 a0_1).wf = true) (w0_2 : (Lit.int .i64 a0_2).wf = true) (w0_3 : (Lit.int .i64 a0_3).wf = true) (w0_4 : (Lit.int .i64 a0_4).wf = true) (w0_5 : (Lit.int .i64 a0_5).wf = true) (w1 : (Lit.int .i64 a1).wf = true) : ∃ k, laws_FnExactMeanSigns.f k a0_0 a0_1 a0_2 a0_3 a0_4 a0_5 a1 = some true := by
  by_cases h : (((1 ≤ a0_2 ∧ a0_2 ≤ 10) ∧ (0 ≤ a0_0 ∧ a0_0 ≤ a0_2) ∧ (0 ≤ a0_1 ∧ a0_1 ≤ a0_2)) ∧ (1 ≤ a0_5 ∧ a0_5 ≤ 10) ∧ (0 ≤ a0_3 ∧ a0_3 ≤ a0_5) ∧ (0 ≤ a0_4 ∧ a0_4 ≤ a0_5)) ∧ 0 ≤ a1 ∧ a1 ≤ 6
  · obtain ⟨hh, m0, m6⟩ := h
    obtain ⟨m, rfl⟩ : ∃ m : Nat, a1 = (m : Int) := ⟨a1.toNat, by omega⟩
    obtain ⟨⟨⟨o1, o2⟩, ⟨w1, w2⟩, d1, d2⟩, ⟨p1, p2⟩, ⟨x1, x2⟩, y1, y2⟩ := hh
    have hS := spec_l0 o1 o2 w1 w2 d1 d2 p1 p2 x1 x2 y1 y2 m (by omega) m 0 (by omega)
    have hI := impl_l0 o1 o2 w1 w2 d1 d2 p1 p2 x1 x2 y1 y2 m (by omega) m 0 (by omega)
    have t := ten_pow o1 o2 (n := 5) (by omega)
    have q := Int.mul_pos (show 0 < a0_2 ^ 5 by omega) (show 0 < a0_5 by omega)
    have e0 : Mth.low (tot a0_0 a0_1 a0_2 a0_3 a0_4 0) (a0_2 ^ 5 * a0_5 * 2) = (0, 1) := by
      have e : Mth.low 0 1 = (0, 1) := by decide
      rw [← e]
      exact Mth.low_cross (by omega) (by omega) (by simp [tot])
    rw [e0] at hS hI
    have S : Mth.Evn (fun k => spec_MeanSigns.f k a0_0 a0_1 a0_2 a0_3 a0_4 a0_5 m) ((Mth.low (tot a0_0 a0_1 a0_2 a0_3 a0_4 m) (a0_2 ^ 5 * a0_5 * 2)).1, (Mth.low (tot a0_0 a0_1 a0_2 a0_3 a0_4 m) (a0_2 ^ 5 * a0_5 * 2)).2, true) := by
      refine Mth.Evn.congr (fun k => ?_) (Mth.Evn.step (f := fun k => spec_MeanSigns.j0 k m false a0_0 a0_1 a0_2 a0_3 a0_4 a0_5) (fun k => ?_) hS)
      · simp only [spec_MeanSigns.f, hdGood_eq, l1In_eq, Option.bind_some]
        rw [decide_eq_true (show ((1 ≤ a0_2 ∧ a0_2 ≤ 10) ∧ (0 ≤ a0_0 ∧ a0_0 ≤ a0_2) ∧ (0 ≤ a0_1 ∧ a0_1 ≤ a0_2)) ∧ (1 ≤ a0_5 ∧ a0_5 ≤ 10) ∧ (0 ≤ a0_3 ∧ a0_3 ≤ a0_5) ∧ (0 ≤ a0_4 ∧ a0_4 ≤ a0_5) by omega), decide_eq_true (show (0 : Int) ≤ m ∧ (m : Int) ≤ 6 by omega), if_pos rfl]
        rfl
      · simp only [spec_MeanSigns.j0]
        rw [if_neg (by decide)]; rfl
    have I : Mth.Evn (fun k => impl_MeanSigns.f k a0_0 a0_1 a0_2 a0_3 a0_4 a0_5 m) ((Mth.low (tot a0_0 a0_1 a0_2 a0_3 a0_4 m) (a0_2 ^ 5 * a0_5 * 2)).1, (Mth.low (tot a0_0 a0_1 a0_2 a0_3 a0_4 m) (a0_2 ^ 5 * a0_5 * 2)).2, true) := by
      refine Mth.Evn.congr (fun k => ?_) (Mth.Evn.step (f := fun k => impl_MeanSigns.j0 k m false a0_0 a0_1 a0_2 a0_3 a0_4 a0_5) (fun k => ?_) hI)
      · simp only [impl_MeanSigns.f, IsHidden_eq, within_eq, Option.bind_some]
        rw [decide_eq_true (show ((1 ≤ a0_2 ∧ a0_2 ≤ 10) ∧ (0 ≤ a0_0 ∧ a0_0 ≤ a0_2) ∧ (0 ≤ a0_1 ∧ a0_1 ≤ a0_2)) ∧ (1 ≤ a0_5 ∧ a0_5 ≤ 10) ∧ (0 ≤ a0_3 ∧ a0_3 ≤ a0_5) ∧ (0 ≤ a0_4 ∧ a0_4 ≤ a0_5) by omega), decide_eq_true (show (0 : Int) ≤ m ∧ (m : Int) ≤ 6 by omega), if_pos rfl]
        rfl
      · simp only [impl_MeanSigns.j0, impl_whole.f, Option.bind_some]
        rw [if_neg (by decide)]; rfl
    obtain ⟨K1, s⟩ := S
    obtain ⟨K2, u⟩ := I
    have s' := s (K1 + K2) (Nat.le_add_right _ _)
    have u' := u (K1 + K2) (Nat.le_add_left _ _)
    dsimp only at s' u'
    refine ⟨K1 + K2, ?_⟩
    simp only [laws_FnExactMeanSigns.f, laws_toHidden.f, laws_toChain.f, Option.bind_some, s', u', if_true, bne_self_eq_false, Bool.false_eq_true, if_false]
  · refine ⟨1, ?_⟩
    simp only [laws_FnExactMeanSigns.f, laws_toHidden.f, laws_toChain.f, spec_MeanSigns.f, impl_MeanSigns.f, hdGood_eq, IsHidden_eq, l1In_eq, within_eq, Option.bind_some, decide_eq_true_eq]
    by_cases hh : ((1 ≤ a0_2 ∧ a0_2 ≤ 10) ∧ (0 ≤ a0_0 ∧ a0_0 ≤ a0_2) ∧ (0 ≤ a0_1 ∧ a0_1 ≤ a0_2)) ∧ (1 ≤ a0_5 ∧ a0_5 ≤ 10) ∧ (0 ≤ a0_3 ∧ a0_3 ≤ a0_5) ∧ (0 ≤ a0_4 ∧ a0_4 ≤ a0_5)
    · rw [if_pos hh, if_pos hh, decide_eq_false (fun h2 => h ⟨hh, h2⟩)]
      simp [spec_MeanSigns.j0, impl_MeanSigns.j0]
    · rw [if_neg hh, if_neg hh]
      simp [spec_MeanSigns.j0, impl_MeanSigns.j0]
end Go.Proofs.Ytfpbpiodoajpiaa.PureFnExactMeanSigns
