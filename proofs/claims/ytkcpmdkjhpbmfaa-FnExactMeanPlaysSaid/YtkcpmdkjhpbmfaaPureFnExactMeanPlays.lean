/- The pure statement of FnExactMeanPlays. No condition. -/
import Derived.Test.YtkcpmdkjhpbmfaaPFnExactMeanPlaysx4
import Derived.Test.YtkcpmdkjhpbmfaaMath
import Derived.OpenShut
namespace Go.Proofs.Ytkcpmdkjhpbmfaa.PureFnExactMeanPlays
open Go Go.RowKit Go.Proofs.Ytkcpmdkjhpbmfaa.PFnExactMeanPlays Go.Proofs.YtkcpmdkjhpbmfaaW.PrintWords Go.Proofs.YtkcpmdkjhpbmfaaW.PrintLast Go.Proofs.YtkcpmdkjhpbmfaaW.PrintMore
set_option linter.unusedVariables false
set_option linter.unusedSimpArgs false

theorem wrap_id {x : Int} (h : -9223372036854775808 ≤ x) (h' : x ≤ 9223372036854775807) : wrap64 x = x := by unfold wrap64; omega
theorem ite_dec (p q : Prop) [Decidable p] [Decidable q] : (if decide p = true then some (decide q) else some false) = some (decide (p ∧ q)) := by
  by_cases h : p <;> simp [h]
theorem some_dec {p q : Prop} [Decidable p] [Decidable q] (h : p ↔ q) : some (decide p) = some (decide q) := by rw [decide_eq_decide.2 h]
theorem l1In_eq (a b c : Int) : spec_l1In.f a b c = some (decide (b ≤ a ∧ a ≤ c)) := by
  unfold spec_l1In.f
  by_cases h : a ≥ b
  · rw [if_pos h]; simp [show b ≤ a from h]
  · rw [if_neg h]; simp; omega
theorem within_eq (a b c : Int) : impl_within.f a b c = some (decide (b ≤ a ∧ a ≤ c)) := by
  unfold impl_within.f
  by_cases h : a ≥ b
  · rw [if_pos h]; simp [show b ≤ a from h]
  · rw [if_neg h]; simp; omega
theorem ptCoin_eq (h o : Int) : spec_ptCoin.f h o = some (decide ((2 ≤ o ∧ o ≤ 10) ∧ (1 ≤ h ∧ h ≤ o - 1))) := by
  unfold spec_ptCoin.f; simp only [l1In_eq, Option.bind_some]
  by_cases h1 : 2 ≤ o ∧ o ≤ 10
  · rw [wrap_id (x := o - 1) (by omega) (by omega)]; simp [h1]
  · simp [h1]
theorem IsCoin_eq (h o : Int) : impl_IsCoin.f h o = some (decide ((2 ≤ o ∧ o ≤ 10) ∧ (1 ≤ h ∧ h ≤ o - 1))) := by
  unfold impl_IsCoin.f; simp only [within_eq, Option.bind_some]
  by_cases h1 : 2 ≤ o ∧ o ≤ 10
  · rw [wrap_id (x := o - 1) (by omega) (by omega)]; simp [h1]
  · simp [h1]
theorem skGood_eq (p g : Int) : spec_skGood.f p g = some (decide ((1 ≤ g ∧ g ≤ 16) ∧ (0 ≤ p ∧ p ≤ g))) := by
  unfold spec_skGood.f; simp only [l1In_eq, Option.bind_some]
  by_cases h1 : 1 ≤ g ∧ g ≤ 16 <;> simp [h1]
theorem AreStakes_eq (p g : Int) : impl_AreStakes.f p g = some (decide ((1 ≤ g ∧ g ≤ 16) ∧ (0 ≤ p ∧ p ≤ g))) := by
  unfold impl_AreStakes.f; simp only [within_eq, Option.bind_some]
  by_cases h1 : 1 ≤ g ∧ g ≤ 16 <;> simp [h1]
theorem cnLow_l0 (x0 x1 : Int) (n : Nat) : ∀ (k : Nat) (a b : Int), 0 ≤ a → 0 ≤ b → b.toNat ≤ n → n < k → Int.gcd a b ≠ 0 →
    spec_cnLow.l0 k x0 x1 a b = some (wrap64 (Int.tdiv x0 (Int.gcd a b)), wrap64 (Int.tdiv x1 (Int.gcd a b))) := by
  induction n with
  | zero =>
    intro k a b ha hb hn hk hg
    obtain ⟨k, rfl⟩ : ∃ m, k = m + 1 := ⟨k - 1, by omega⟩
    obtain rfl : b = 0 := by omega
    have e : ((Int.gcd a 0 : Nat) : Int) = a := by rw [Int.gcd_zero_right]; omega
    have h0 : a ≠ 0 := by intro h; subst h; exact hg rfl
    simp only [spec_cnLow.l0]
    rw [if_neg (by omega), if_neg h0, e]
  | succ n ih =>
    intro k a b ha hb hn hk hg
    obtain ⟨k, rfl⟩ : ∃ m, k = m + 1 := ⟨k - 1, by omega⟩
    simp only [spec_cnLow.l0]
    by_cases h : b > 0
    · have h1 := Int.tmod_nonneg b ha
      have h2 := Int.tmod_lt_of_pos a h
      rw [if_pos h, if_neg (by omega), ih k b (a.tmod b) hb h1 (by omega) (by omega) (by rw [Mth.gcd_step]; exact hg), Mth.gcd_step]
    · obtain rfl : b = 0 := by omega
      have e : ((Int.gcd a 0 : Nat) : Int) = a := by rw [Int.gcd_zero_right]; omega
      have h0 : a ≠ 0 := by intro h; subst h; exact hg rfl
      rw [if_neg (by omega), if_neg h0, e]
theorem div_in {x g : Int} {M : Int} (hM : M ≤ 9223372036854775807) (h : -M ≤ x) (h' : x ≤ M) (hd : g ∣ x) (h0 : g ≠ 0) : wrap64 (Int.tdiv x g) = x / g := by
  rw [Int.tdiv_eq_ediv_of_dvd hd]
  obtain ⟨c, rfl⟩ := hd
  rw [Int.mul_ediv_cancel_left _ h0]
  have : c.natAbs ≤ (g * c).natAbs := by rw [Int.natAbs_mul]; exact Nat.le_mul_of_pos_left _ (by omega)
  exact wrap_id (by omega) (by omega)
theorem cnLow_eq (k : Nat) (a b : Int) (ha : 0 ≤ a) (ha' : a ≤ 9223372036854775807) (hb : 0 < b) (hb' : b ≤ 9223372036854775807) (hk : b.toNat < k) : spec_cnLow.f k a b = some (Mth.low a b) := by
  have hg := Int.gcd_pos_of_ne_zero_right a (b := b) (by omega)
  unfold spec_cnLow.f
  rw [cnLow_l0 a b b.toNat k a b ha (by omega) (Nat.le_refl _) hk (by omega)]
  rw [div_in (M := 9223372036854775807) (by omega) (by omega) ha' (Int.gcd_dvd_left a b) (by omega), div_in (M := 9223372036854775807) (by omega) (by omega) hb' (Int.gcd_dvd_right a b) (by omega)]
  unfold Mth.low Mth.dv
  rw [if_neg (by omega)]
theorem common_l0 (n : Nat) : ∀ (k : Nat) (a b : Int), 0 ≤ a → 0 ≤ b → b.toNat ≤ n → n < k → impl_common.l0 k a b = some (Int.gcd a b : Int) := by
  induction n with
  | zero =>
    intro k a b ha hb hn hk
    obtain ⟨k, rfl⟩ : ∃ m, k = m + 1 := ⟨k - 1, by omega⟩
    have hb0 : b = 0 := by omega
    simp only [impl_common.l0]
    rw [if_pos hb0, hb0, Int.gcd_zero_right]; congr 1; omega
  | succ n ih =>
    intro k a b ha hb hn hk
    obtain ⟨k, rfl⟩ : ∃ m, k = m + 1 := ⟨k - 1, by omega⟩
    simp only [impl_common.l0]
    by_cases h : b = 0
    · rw [if_pos h, h, Int.gcd_zero_right]; congr 1; omega
    · have h1 := Int.tmod_nonneg b ha
      have h2 := Int.tmod_lt_of_pos a (b := b) (by omega)
      rw [if_neg h, ih k b (a.tmod b) hb h1 (by omega) (by omega), Mth.gcd_step]
theorem mx_abs (a : Int) (h : -9223372036854775807 ≤ a) (h' : a ≤ 9223372036854775807) : mx a (wrap64 (-a)) = (a.natAbs : Int) := by
  rw [wrap_id (by omega) (by omega)]; unfold mx; split <;> omega
theorem common_eq (k : Nat) (a b : Int) (ha : -9223372036854775807 ≤ a) (ha' : a ≤ 9223372036854775807) (hb : -9223372036854775807 ≤ b) (hb' : b ≤ 9223372036854775807) (hk : b.natAbs < k) :
    impl_common.f k a b = some (Int.gcd a b : Int) := by
  unfold impl_common.f
  rw [mx_abs a ha ha', mx_abs b hb hb', common_l0 b.natAbs k _ _ (by omega) (by omega) (by omega) hk]
  simp [Int.gcd]
theorem lowest_eq (k : Nat) (a b : Int) (ha : -9223372036854775807 ≤ a) (ha' : a ≤ 9223372036854775807) (hb : -9223372036854775807 ≤ b) (hb' : b ≤ 9223372036854775807) (h0 : b ≠ 0) (hk : b.natAbs < k) :
    impl_lowest.f k a b = some (Mth.low a b) := by
  have hg := Int.gcd_pos_of_ne_zero_right a h0
  have hl : Int.gcd a b ≤ b.natAbs := Nat.le_of_dvd (by omega) (Int.gcd_dvd_natAbs_right a b)
  unfold impl_lowest.f
  rw [common_eq k a b ha ha' hb hb' hk]
  simp only [Option.bind_some]
  by_cases h : b < 0
  · have e : wrap64 (-((Int.gcd a b : Nat) : Int)) = -((Int.gcd a b : Nat) : Int) := wrap_id (by omega) (by omega)
    rw [if_pos h, e, if_neg (by omega), div_in (M := 9223372036854775807) (by omega) (by omega) ha' (Int.neg_dvd.2 (Int.gcd_dvd_left a b)) (by omega), div_in (M := 9223372036854775807) (by omega) (by omega) hb' (Int.neg_dvd.2 (Int.gcd_dvd_right a b)) (by omega)]
    unfold Mth.low Mth.dv
    rw [if_pos h]
  · rw [if_neg h, if_neg (by omega), div_in (M := 9223372036854775807) (by omega) (by omega) ha' (Int.gcd_dvd_left a b) (by omega), div_in (M := 9223372036854775807) (by omega) (by omega) hb' (Int.gcd_dvd_right a b) (by omega)]
    unfold Mth.low Mth.dv
    rw [if_neg h]

theorem nine16 {n : Nat} (h : n ≤ 16) : (9 : Int) ^ n ≤ 1853020188851841 := Int.le_trans (Mth.pow_le_M 9 (by omega) n 16 h) (by decide)
theorem nine15 {n : Nat} (h : n ≤ 15) : (9 : Int) ^ n ≤ 205891132094649 := Int.le_trans (Mth.pow_le_M 9 (by omega) n 15 h) (by decide)
theorem pow9 (x : Int) (h : 0 ≤ x) (h9 : x ≤ 9) (n : Nat) (hn : n ≤ 16) : 0 ≤ x ^ n ∧ x ^ n ≤ 1853020188851841 := by
  have := Mth.pow_bd x 9 h h9 n
  have := nine16 hn
  omega
theorem skPower_l0 (x : Int) (h : 0 ≤ x) (h9 : x ≤ 9) : ∀ (d j : Nat), j + d ≤ 16 → Mth.Evn (fun k => spec_skPower.l0 k x (d : Int) (x ^ j)) (x ^ (j + d))
  | 0, j, hd => by
    refine (Mth.Evn.now _).step fun k => ?_
    simp only [spec_skPower.l0]
    rw [if_neg (by omega)]; rfl
  | d + 1, j, hd => by
    have ih := skPower_l0 x h h9 d (j + 1) (by omega)
    rw [show j + 1 + d = j + (d + 1) by omega] at ih
    have b := pow9 x h h9 (j + 1) (by omega)
    refine ih.step fun k => ?_
    simp only [spec_skPower.l0]
    rw [Int.pow_succ] at b
    rw [if_pos (by omega), wrap_id (x := ((d + 1 : Nat) : Int) - 1) (by omega) (by omega), wrap_id (x := x ^ j * x) (by omega) (by omega), ← Int.pow_succ, show ((d + 1 : Nat) : Int) - 1 = d by omega]
theorem skPower_ev (x n : Int) (h : 0 ≤ x) (h9 : x ≤ 9) (hn : 0 ≤ n) (hn' : n ≤ 16) : Mth.Evn (fun k => spec_skPower.f k x n) (x ^ n.toNat) := by
  have := skPower_l0 x h h9 n.toNat 0 (by omega)
  rw [Nat.zero_add, show ((n.toNat : Nat) : Int) = n by omega, Int.pow_zero] at this
  exact this
theorem power_l0 (x : Int) (h : 0 ≤ x) (h9 : x ≤ 9) (n : Int) (hn' : n ≤ 16) : ∀ (d j : Nat), (j : Int) + d = n → Mth.Evn (fun k => impl_power.l0 k x (x ^ j) n (j : Int)) (x ^ (j + d))
  | 0, j, hd => by
    refine (Mth.Evn.now _).step fun k => ?_
    simp only [impl_power.l0]
    rw [if_neg (by omega)]; rfl
  | d + 1, j, hd => by
    have ih := power_l0 x h h9 n hn' d (j + 1) (by omega)
    rw [show j + 1 + d = j + (d + 1) by omega] at ih
    have b := pow9 x h h9 (j + 1) (by omega)
    refine ih.step fun k => ?_
    simp only [impl_power.l0]
    rw [Int.pow_succ] at b
    rw [if_pos (by omega), wrap_id (x := (j : Int) + 1) (by omega) (by omega), wrap_id (x := x ^ j * x) (by omega) (by omega), ← Int.pow_succ, show ((j + 1 : Nat) : Int) = (j : Int) + 1 by omega]
theorem power_ev (x n : Int) (h : 0 ≤ x) (h9 : x ≤ 9) (hn : 0 ≤ n) (hn' : n ≤ 16) : Mth.Evn (fun k => impl_power.f k x n) (x ^ n.toNat) := by
  have := power_l0 x h h9 n hn' n.toNat 0 (by omega)
  rw [Nat.zero_add, Int.pow_zero] at this
  exact this
theorem cnLow_ev (a b : Int) (ha : 0 ≤ a) (ha' : a ≤ 9223372036854775807) (hb : 0 < b) (hb' : b ≤ 9223372036854775807) : Mth.Evn (fun k => spec_cnLow.f k a b) (Mth.low a b) :=
  ⟨b.toNat + 1, fun k hk => cnLow_eq k a b ha ha' hb hb' (by omega)⟩
theorem lowest_ev (a b : Int) (ha : -9223372036854775807 ≤ a) (ha' : a ≤ 9223372036854775807) (hb : -9223372036854775807 ≤ b) (hb' : b ≤ 9223372036854775807) (h0 : b ≠ 0) : Mth.Evn (fun k => impl_lowest.f k a b) (Mth.low a b) :=
  ⟨b.natAbs + 1, fun k hk => lowest_eq k a b ha ha' hb hb' h0 (by omega)⟩

/-- A coin's heads and tails without a common divisor. -/
def odds (h o : Int) : Int × Int := Mth.low h (o - h)
theorem odds_bd {h o : Int} (ho : 2 ≤ o) (ho' : o ≤ 10) (hh : 1 ≤ h) (hh' : h ≤ o - 1) : (1 ≤ (odds h o).1 ∧ (odds h o).1 ≤ 9) ∧ (1 ≤ (odds h o).2 ∧ (odds h o).2 ≤ 9) := by
  unfold odds
  have a := Mth.low_num_le (n := h) (d := o - h) (by omega) (by omega)
  have b := Mth.low_den_le (n := h) (d := o - h) (by omega)
  have c := Mth.low_pos (n := h) (d := o - h) (by omega)
  have d := Mth.low_nonneg (n := h) (d := o - h) (by omega) (by omega)
  have e : (Mth.low h (o - h)).1 ≠ 0 := by
    intro h0
    have := Mth.low_num h (o - h)
    rw [h0, Int.mul_zero] at this; omega
  omega
theorem skCoin_ev {h o : Int} (ho : 2 ≤ o) (ho' : o ≤ 10) (hh : 1 ≤ h) (hh' : h ≤ o - 1) : Mth.Evn (fun k => spec_skCoin.f k h o) (odds h o) := by
  refine Mth.Evn.congr (g := fun k => (spec_cnLow.f k h (o - h)).bind fun b => some (b.1, b.2)) (fun k => ?_) ((cnLow_ev h (o - h) (by omega) (by omega) (by omega) (by omega)).bind (Mth.Evn.now _))
  unfold spec_skCoin.f
  rw [wrap_id (x := o - h) (by omega) (by omega)]
theorem odds_ev {h o : Int} (ho : 2 ≤ o) (ho' : o ≤ 10) (hh : 1 ≤ h) (hh' : h ≤ o - 1) : Mth.Evn (fun k => impl_Coin_odds.f k h o) (odds h o) := by
  refine Mth.Evn.congr (g := fun k => (impl_lowest.f k h (o - h)).bind fun b => some (b.1, b.2)) (fun k => ?_) ((lowest_ev h (o - h) (by omega) (by omega) (by omega) (by omega) (by omega)).bind (Mth.Evn.now _))
  unfold impl_Coin_odds.f
  rw [wrap_id (x := o - h) (by omega) (by omega)]

/-- The chance to come to the goal. -/
def goalv (p q P G : Int) : Int × Int := if p = q then Mth.low P G else Mth.low (Mth.S p q G.toNat P.toNat) (Mth.S p q G.toNat G.toNat)
theorem S_in (p q : Int) (hp : 1 ≤ p) (hp9 : p ≤ 9) (hq : 1 ≤ q) (hq9 : q ≤ 9) (G P : Nat) (hG : G ≤ 16) (hP : P ≤ G) : 0 ≤ Mth.S p q G P ∧ Mth.S p q G P ≤ 3294258113514384 := by
  have a := Mth.S_bd p q 9 (by omega) hp9 (by omega) hq9 G P hP
  have b := nine15 (n := G - 1) (by omega)
  have c : (P : Int) * 9 ^ (G - 1) ≤ 16 * 205891132094649 := Int.mul_le_mul (by omega) b (Mth.pow_bd 9 9 (by omega) (by omega) _).1 (by omega)
  omega
theorem skGoal_l0 (p q P G : Int) (hp : 1 ≤ p) (hp9 : p ≤ 9) (hq : 1 ≤ q) (hq9 : q ≤ 9) (hP : 0 ≤ P) (hPG : P ≤ G) (hG1 : 1 ≤ G) (hG : G ≤ 16) : ∀ (d i : Nat), (i : Int) + d = G →
    Mth.Evn (fun k => spec_skGoal.l0 k p q (Mth.S p q G.toNat (min i P.toNat)) (Mth.S p q G.toNat i) (i : Int) P G) (Mth.low (Mth.S p q G.toNat P.toNat) (Mth.S p q G.toNat G.toNat))
  | 0, i, hi => by
    have e : i = G.toNat := by omega
    have e1 : min i P.toNat = P.toNat := by omega
    rw [e1, e]
    have b1 := S_in p q hp hp9 hq hq9 G.toNat P.toNat (by omega) (by omega)
    have b2 := S_in p q hp hp9 hq hq9 G.toNat G.toNat (by omega) (by omega)
    have b3 := Mth.S_pos p q hp (by omega) G.toNat G.toNat (by omega)
    refine Mth.Evn.step (g := fun k => (spec_cnLow.f k (Mth.S p q G.toNat P.toNat) (Mth.S p q G.toNat G.toNat)).bind fun b => some (b.1, b.2)) (fun k => ?_) ((cnLow_ev _ _ (by omega) (by omega) (by omega) (by omega)).bind (Mth.Evn.now _))
    simp only [spec_skGoal.l0]
    rw [if_neg (by omega)]
  | d + 1, i, hi => by
    have ih := skGoal_l0 p q P G hp hp9 hq hq9 hP hPG hG1 hG d (i + 1) (by omega)
    have w1 := skPower_ev q i (by omega) hq9 (by omega) (by omega)
    have w2 := skPower_ev p (G - 1 - i) (by omega) hp9 (by omega) (by omega)
    have t := Mth.term_bd p q 9 (by omega) hp9 (by omega) hq9 i (G.toNat - 1 - i)
    have t9 := nine15 (n := i + (G.toNat - 1 - i)) (by omega)
    have b2 := S_in p q hp hp9 hq hq9 G.toNat (i + 1) (by omega) (by omega)
    have b1 := S_in p q hp hp9 hq hq9 G.toNat i (by omega) (by omega)
    have eS : Mth.S p q G.toNat (i + 1) = Mth.S p q G.toNat i + q ^ i * p ^ (G.toNat - 1 - i) := rfl
    have e1 : ((i : Int)).toNat = i := by omega
    have e2 : (G - 1 - (i : Int)).toNat = G.toNat - 1 - i := by omega
    rw [e1] at w1
    rw [e2] at w2
    refine Mth.Evn.step (g := fun k => (spec_skPower.f k q i).bind fun t1 => (spec_skPower.f k p (G - 1 - i)).bind fun t2 => if (i : Int) < P then spec_skGoal.l0 k p q (wrap64 (Mth.S p q G.toNat (min i P.toNat) + wrap64 (t1 * t2))) (wrap64 (Mth.S p q G.toNat i + wrap64 (t1 * t2))) (wrap64 ((i : Int) + 1)) P G else spec_skGoal.l0 k p q (Mth.S p q G.toNat (min i P.toNat)) (wrap64 (Mth.S p q G.toNat i + wrap64 (t1 * t2))) (wrap64 ((i : Int) + 1)) P G) (fun k => ?_) ?_
    · simp only [spec_skGoal.l0]
      rw [if_pos (by omega), wrap_id (x := G - 1) (by omega) (by omega), wrap_id (x := G - 1 - i) (by omega) (by omega)]
    · refine w1.bind (w2.bind ?_)
      refine ih.congr fun k => ?_
      rw [wrap_id (x := q ^ i * p ^ (G.toNat - 1 - i)) (by omega) (by omega), wrap_id (x := (i : Int) + 1) (by omega) (by omega), wrap_id (x := Mth.S p q G.toNat i + q ^ i * p ^ (G.toNat - 1 - i)) (by omega) (by omega), ← eS, show ((i + 1 : Nat) : Int) = (i : Int) + 1 by omega]
      by_cases hlt : (i : Int) < P
      · rw [if_pos hlt, show min i P.toNat = i by omega, show min (i + 1) P.toNat = i + 1 by omega, wrap_id (x := Mth.S p q G.toNat i + q ^ i * p ^ (G.toNat - 1 - i)) (by omega) (by omega), ← eS]
      · rw [if_neg hlt, show min i P.toNat = P.toNat by omega, show min (i + 1) P.toNat = P.toNat by omega]
theorem skGoal_ev {h o : Int} (ho : 2 ≤ o) (ho' : o ≤ 10) (hh : 1 ≤ h) (hh' : h ≤ o - 1) (P G : Int) (hP : 0 ≤ P) (hPG : P ≤ G) (hG1 : 1 ≤ G) (hG : G ≤ 16) : Mth.Evn (fun k => spec_skGoal.f k h o P G) (goalv (odds h o).1 (odds h o).2 P G) := by
  obtain ⟨⟨p1, p2⟩, q1, q2⟩ := odds_bd ho ho' hh hh'
  refine (skCoin_ev ho ho' hh hh').bind ?_
  unfold goalv
  by_cases e : (odds h o).1 = (odds h o).2
  · rw [if_pos e]
    refine Mth.Evn.congr (fun k => if_pos e) ?_
    exact (cnLow_ev P G (by omega) (by omega) (by omega) (by omega)).bind (Mth.Evn.now _)
  · rw [if_neg e]
    refine Mth.Evn.congr (fun k => if_neg e) ?_
    have := skGoal_l0 (odds h o).1 (odds h o).2 P G p1 p2 q1 q2 hP hPG hG1 hG G.toNat 0 (by omega)
    rw [Nat.zero_min] at this
    exact this
theorem goal_ev {h o : Int} (ho : 2 ≤ o) (ho' : o ≤ 10) (hh : 1 ≤ h) (hh' : h ≤ o - 1) (P G : Int) (hP : 0 ≤ P) (hPG : P ≤ G) (hG1 : 1 ≤ G) (hG : G ≤ 16) : Mth.Evn (fun k => impl_Coin_goal.f k h o P G) (goalv (odds h o).1 (odds h o).2 P G) := by
  obtain ⟨⟨p1, p2⟩, q1, q2⟩ := odds_bd ho ho' hh hh'
  refine (odds_ev ho ho' hh hh').bind ?_
  generalize (odds h o).1 = p at *
  generalize (odds h o).2 = q at *
  unfold goalv
  by_cases e : p = q
  · rw [if_pos e]
    refine Mth.Evn.congr (fun k => if_pos e) ?_
    exact (lowest_ev P G (by omega) (by omega) (by omega) (by omega) (by omega)).bind (Mth.Evn.now _)
  · rw [if_neg e]
    refine Mth.Evn.congr (fun k => if_neg e) ?_
    have e1 : wrap64 (G - P) = G - P := wrap_id (by omega) (by omega)
    refine Mth.Evn.congr (fun k => by rw [e1]) ?_
    refine (power_ev p (G - P) (by omega) p2 (by omega) (by omega)).bind ?_
    refine (power_ev p P (by omega) p2 (by omega) (by omega)).bind ?_
    refine (power_ev q P (by omega) q2 (by omega) (by omega)).bind ?_
    refine (power_ev p G (by omega) p2 (by omega) (by omega)).bind ?_
    refine (power_ev q G (by omega) q2 (by omega) (by omega)).bind ?_
    have m1 := Mth.S_mul p q G.toNat P.toNat (by omega)
    have m2 := Mth.S_mul p q G.toNat G.toNat (by omega)
    rw [Nat.sub_self, Int.pow_zero, Int.one_mul] at m2
    rw [show G.toNat - P.toNat = (G - P).toNat by omega] at m1
    have b1 := S_in p q p1 p2 q1 q2 G.toNat P.toNat (by omega) (by omega)
    have b2 := S_in p q p1 p2 q1 q2 G.toNat G.toNat (by omega) (by omega)
    have b3 := Mth.S_pos p q p1 (by omega) G.toNat G.toNat (by omega)
    have c1 := pow9 p (by omega) p2 P.toNat (by omega)
    have c2 := pow9 q (by omega) q2 P.toNat (by omega)
    have c3 := pow9 p (by omega) p2 G.toNat (by omega)
    have c4 := pow9 q (by omega) q2 G.toNat (by omega)
    have lo : ∀ s : Int, 0 ≤ s → s ≤ 3294258113514384 → -26354064908115072 ≤ (p - q) * s ∧ (p - q) * s ≤ 26354064908115072 := by
      intro s s0 s1
      have u1 := Int.mul_le_mul_of_nonneg_right (show p - q ≤ 8 by omega) s0
      have u2 := Int.mul_le_mul_of_nonneg_right (show -8 ≤ p - q by omega) s0
      omega
    have l1 := lo _ b1.1 b1.2
    have l2 := lo _ b2.1 b2.2
    have w1 : wrap64 (p ^ P.toNat - q ^ P.toNat) = p ^ P.toNat - q ^ P.toNat := wrap_id (by omega) (by omega)
    have w2 : wrap64 (p ^ G.toNat - q ^ G.toNat) = p ^ G.toNat - q ^ G.toNat := wrap_id (by omega) (by omega)
    have n0 : (p - q) * Mth.S p q G.toNat G.toNat ≠ 0 := Int.mul_ne_zero (by omega) (by omega)
    have E : Mth.low ((p - q) * Mth.S p q G.toNat P.toNat) ((p - q) * Mth.S p q G.toNat G.toNat) = Mth.low (Mth.S p q G.toNat P.toNat) (Mth.S p q G.toNat G.toNat) :=
      Mth.low_cross n0 (by omega) (by ac_rfl)
    refine Mth.Evn.congr (g := fun k => (impl_lowest.f k ((p - q) * Mth.S p q G.toNat P.toNat) ((p - q) * Mth.S p q G.toNat G.toNat)).bind fun b => some (b.1, b.2)) (fun k => ?_) ?_
    · rw [w1, w2, ← m1, ← m2, wrap_id (x := (p - q) * Mth.S p q G.toNat P.toNat) (by omega) (by omega)]
    · rw [← E]
      exact (lowest_ev _ _ (by omega) (by omega) (by omega) (by omega) n0).bind (Mth.Evn.now _)
theorem goalv_bd (p q P G : Int) (hp : 1 ≤ p) (hp9 : p ≤ 9) (hq : 1 ≤ q) (hq9 : q ≤ 9) (hP : 0 ≤ P) (hPG : P ≤ G) (hG1 : 1 ≤ G) (hG : G ≤ 16) :
    0 ≤ (goalv p q P G).1 ∧ (goalv p q P G).1 ≤ (goalv p q P G).2 ∧ 0 < (goalv p q P G).2 ∧ (goalv p q P G).2 ≤ 3294258113514384 := by
  have key : ∀ n d : Int, 0 ≤ n → n ≤ d → 0 < d → d ≤ 3294258113514384 → 0 ≤ (Mth.low n d).1 ∧ (Mth.low n d).1 ≤ (Mth.low n d).2 ∧ 0 < (Mth.low n d).2 ∧ (Mth.low n d).2 ≤ 3294258113514384 := by
    intro n d h0 h1 h2 h3
    have a := Mth.low_nonneg h2 h0
    have b := Mth.low_pos (n := n) (d := d) (by omega)
    have c := Mth.low_den_le (n := n) h2
    have v := Mth.low_val (n := n) (d := d)
    refine ⟨a, ?_, b, by omega⟩
    have : (Mth.low n d).1 * d ≤ (Mth.low n d).2 * d := by
      rw [v, Int.mul_comm (Mth.low n d).2]; exact Int.mul_le_mul_of_nonneg_right h1 (by omega)
    exact Int.le_of_mul_le_mul_right this h2
  unfold goalv
  split
  · exact key P G hP hPG (by omega) (by omega)
  · have b1 := S_in p q hp hp9 hq hq9 G.toNat P.toNat (by omega) (by omega)
    have b2 := S_in p q hp hp9 hq hq9 G.toNat G.toNat (by omega) (by omega)
    have b3 := Mth.S_pos p q hp (by omega) G.toNat G.toNat (by omega)
    exact key _ _ b1.1 (Mth.S_mono p q (by omega) (by omega) _ _ _ (by omega)) (by omega) b2.2
theorem skAsked_eq (h o p g : Int) : spec_skAsked.f h o p g = some (decide (((2 ≤ o ∧ o ≤ 10) ∧ (1 ≤ h ∧ h ≤ o - 1)) ∧ ((1 ≤ g ∧ g ≤ 16) ∧ (0 ≤ p ∧ p ≤ g)))) := by
  unfold spec_skAsked.f; rw [ptCoin_eq, skGood_eq]; simp only [Option.bind_some, ite_dec]
theorem abs_eq (x : Int) (h : -9223372036854775807 ≤ x) (h' : x ≤ 9223372036854775807) : spec_l1Abs.f x = some (x.natAbs : Int) := by
  unfold spec_l1Abs.f spec_l1Most.f
  rw [wrap_id (x := -x) (by omega) (by omega)]
  by_cases g : x > -x
  · rw [if_pos g]; simp only [Option.bind_some]; congr 1; omega
  · rw [if_neg g]; simp only [Option.bind_some]; congr 1; omega
theorem cop_dvd {a b x y : Int} (h : Int.gcd a b = 1) (hx : x ∣ a) (hy : y ∣ b) : Int.gcd x y = 1 := by
  have h1 : Nat.Coprime a.natAbs b.natAbs := h
  exact Nat.Coprime.coprime_dvd_left (Int.natAbs_dvd_natAbs.2 hx) (Nat.Coprime.coprime_dvd_right (Int.natAbs_dvd_natAbs.2 hy) h1)
theorem low_dvd (n d : Int) : (Mth.low n d).1 ∣ n := ⟨Mth.dv n d, by rw [Int.mul_comm]; exact (Mth.low_num n d).symm⟩
theorem low_dvd' (n d : Int) : (Mth.low n d).2 ∣ d := ⟨Mth.dv n d, by rw [Int.mul_comm]; exact (Mth.low_den n d).symm⟩

/-- A product of two fractions, cancelled crosswise, is in lowest terms. -/
def cross (gn L pq d : Int) : Int × Int :=
  ((Mth.low (Mth.low gn L).1 (Mth.low pq d).2).1 * (Mth.low (Mth.low pq d).1 (Mth.low gn L).2).1, (Mth.low (Mth.low pq d).1 (Mth.low gn L).2).2 * (Mth.low (Mth.low gn L).1 (Mth.low pq d).2).2)
theorem cross_low (gn L pq d : Int) (hL : 0 < L) (hd : 0 < d) (N D : Int) (hD : D ≠ 0) (hv : N * (L * d) = gn * pq * D) : Mth.low N D = cross gn L pq d := by
  have v1 := Mth.low_val (n := gn) (d := L)
  have v2 := Mth.low_val (n := pq) (d := d)
  have g1 := Mth.low_gcd (n := gn) (d := L) (by omega)
  have g2 := Mth.low_gcd (n := pq) (d := d) (by omega)
  have p1 := Mth.low_pos (n := gn) (d := L) (by omega)
  have p2 := Mth.low_pos (n := pq) (d := d) (by omega)
  unfold cross
  generalize (Mth.low gn L).1 = a at *
  generalize (Mth.low gn L).2 = b at *
  generalize (Mth.low pq d).1 = c at *
  generalize (Mth.low pq d).2 = e at *
  have v3 := Mth.low_val (n := a) (d := e)
  have v4 := Mth.low_val (n := c) (d := b)
  have g3 := Mth.low_gcd (n := a) (d := e) (by omega)
  have g4 := Mth.low_gcd (n := c) (d := b) (by omega)
  have p3 := Mth.low_pos (n := a) (d := e) (by omega)
  have p4 := Mth.low_pos (n := c) (d := b) (by omega)
  have d1 := low_dvd a e
  have d2 := low_dvd' a e
  have d3 := low_dvd c b
  have d4 := low_dvd' c b
  generalize (Mth.low a e).1 = a' at *
  generalize (Mth.low a e).2 = e' at *
  generalize (Mth.low c b).1 = c' at *
  generalize (Mth.low c b).2 = b' at *
  refine Mth.low_unique hD (Int.mul_pos p4 p3) (Mth.coprime_mul (cop_dvd g1 d1 d4) g3 g4 (cop_dvd g2 d3 d2)) ?_
  have E : (b * e) * (a' * c' * (L * d)) = (b * e) * (gn * pq * (b' * e')) := by
    have t1 : (b * e) * (a' * c' * (L * d)) = (a' * e) * (c' * b) * (L * d) := by ac_rfl
    have t2 : a * e' * (c * b') * (L * d) = (a * L) * (c * d) * (e' * b') := by ac_rfl
    rw [t1, v3, v4, t2, v1, v2]; ac_rfl
  have E2 : a' * c' * (L * d) = gn * pq * (b' * e') := Int.eq_of_mul_eq_mul_left (Int.mul_ne_zero (by omega) (by omega)) E
  have E3 : (L * d) * (a' * c' * D) = (L * d) * (N * (b' * e')) := by
    have t1 : (L * d) * (a' * c' * D) = (a' * c' * (L * d)) * D := by ac_rfl
    have t2 : (L * d) * (N * (b' * e')) = (N * (L * d)) * (b' * e') := by ac_rfl
    rw [t1, E2, t2, hv]; ac_rfl
  exact Int.eq_of_mul_eq_mul_left (Int.mul_ne_zero (by omega) (by omega)) E3
theorem cross_bd (gn L pq d : Int) (h0 : 0 ≤ gn) (h1 : gn ≤ 60000000000000000) (h2 : 0 < L) (h3 : L ≤ 8) (h4 : 0 < pq) (h5 : pq ≤ 18) (h6 : 0 < d) (h7 : d ≤ 3294258113514384) :
    (0 ≤ (Mth.low gn L).1 ∧ (Mth.low gn L).1 ≤ 60000000000000000 ∧ 0 < (Mth.low gn L).2 ∧ (Mth.low gn L).2 ≤ 8) ∧ (0 ≤ (Mth.low pq d).1 ∧ (Mth.low pq d).1 ≤ 18 ∧ 0 < (Mth.low pq d).2 ∧ (Mth.low pq d).2 ≤ 3294258113514384) ∧
    (0 ≤ (cross gn L pq d).1 ∧ (cross gn L pq d).1 ≤ 60000000000000000 * 18) ∧ (0 ≤ (cross gn L pq d).2 ∧ (cross gn L pq d).2 ≤ 8 * 3294258113514384) := by
  have a1 := Mth.low_nonneg h2 h0
  have a2 := Mth.low_num_le h2 h0
  have a3 := Mth.low_pos (n := gn) (d := L) (by omega)
  have a4 := Mth.low_den_le (n := gn) h2
  have b1 := Mth.low_nonneg h6 (show 0 ≤ pq by omega)
  have b2 := Mth.low_num_le h6 (show 0 ≤ pq by omega)
  have b3 := Mth.low_pos (n := pq) (d := d) (by omega)
  have b4 := Mth.low_den_le (n := pq) h6
  unfold cross
  generalize (Mth.low gn L).1 = a at *
  generalize (Mth.low gn L).2 = b at *
  generalize (Mth.low pq d).1 = c at *
  generalize (Mth.low pq d).2 = e at *
  have c1 := Mth.low_nonneg b3 a1
  have c2 := Mth.low_num_le b3 a1
  have c3 := Mth.low_pos (n := a) (d := e) (by omega)
  have c4 := Mth.low_den_le (n := a) b3
  have d1 := Mth.low_nonneg a3 b1
  have d2 := Mth.low_num_le a3 b1
  have d3 := Mth.low_pos (n := c) (d := b) (by omega)
  have d4 := Mth.low_den_le (n := c) a3
  refine ⟨⟨a1, by omega, a3, by omega⟩, ⟨b1, by omega, b3, by omega⟩, ⟨Int.mul_nonneg c1 d1, Int.mul_le_mul (by omega) (by omega) d1 (by omega)⟩, Int.mul_nonneg (by omega) (by omega), Int.mul_le_mul (by omega) (by omega) (by omega) (by omega)⟩

/-- What the purse gains on the mean has the sign of what each play gains. -/
theorem gain_sign (p q P G : Int) (hp : 1 ≤ p) (hq : 1 ≤ q) (hne : p ≠ q) (hP : 0 ≤ P) (hPG : P ≤ G) (hG1 : 1 ≤ G) :
    (q < p → P * (goalv p q P G).2 ≤ G * (goalv p q P G).1) ∧ (p < q → G * (goalv p q P G).1 ≤ P * (goalv p q P G).2) := by
  have b3 := Mth.S_pos p q hp (by omega) G.toNat G.toNat (by omega)
  have v := Mth.low_val (n := Mth.S p q G.toNat P.toNat) (d := Mth.S p q G.toNat G.toNat)
  have pos := Mth.low_pos (n := Mth.S p q G.toNat P.toNat) (d := Mth.S p q G.toNat G.toNat) (by omega)
  have key1 : q < p → P * Mth.S p q G.toNat G.toNat ≤ G * Mth.S p q G.toNat P.toNat := by
    intro h
    by_cases h0 : P = 0
    · subst h0; simp [Mth.S]
    · have := Mth.S_avg p q hp (by omega) (by omega) G.toNat P.toNat (by omega) (G.toNat - P.toNat) (by omega)
      rw [show P.toNat + (G.toNat - P.toNat) = G.toNat by omega, show ((P.toNat : Nat) : Int) = P by omega, show ((G.toNat : Nat) : Int) = G by omega] at this
      exact this
  have key2 : p < q → G * Mth.S p q G.toNat P.toNat ≤ P * Mth.S p q G.toNat G.toNat := by
    intro h
    by_cases h0 : P = 0
    · subst h0; simp [Mth.S]
    · have := Mth.S_avg' p q hp (by omega) G.toNat P.toNat (by omega) (G.toNat - P.toNat) (by omega)
      rw [show P.toNat + (G.toNat - P.toNat) = G.toNat by omega, show ((P.toNat : Nat) : Int) = P by omega, show ((G.toNat : Nat) : Int) = G by omega] at this
      exact this
  unfold goalv
  rw [if_neg hne]
  generalize Mth.S p q G.toNat G.toNat = D at *
  generalize Mth.S p q G.toNat P.toNat = n at *
  generalize (Mth.low n D).1 = x at *
  generalize (Mth.low n D).2 = y at *
  constructor
  · intro h
    refine Int.le_of_mul_le_mul_right (a := D) ?_ (by omega)
    have t := Int.mul_le_mul_of_nonneg_right (key1 h) (show 0 ≤ y by omega)
    have e1 : P * y * D = P * D * y := by ac_rfl
    have e2 : G * x * D = G * n * y := by rw [Int.mul_assoc, v, Int.mul_assoc]
    omega
  · intro h
    refine Int.le_of_mul_le_mul_right (a := D) ?_ (by omega)
    have t := Int.mul_le_mul_of_nonneg_right (key2 h) (show 0 ≤ y by omega)
    have e1 : P * y * D = P * D * y := by ac_rfl
    have e2 : G * x * D = G * n * y := by rw [Int.mul_assoc, v, Int.mul_assoc]
    omega
theorem mean_core (p q P G : Int) (hp : 1 ≤ p) (hp9 : p ≤ 9) (hq : 1 ≤ q) (hq9 : q ≤ 9) (hne : p ≠ q) (hP : 0 ≤ P) (hPG : P ≤ G) (hG1 : 1 ≤ G) (hG : G ≤ 16) (n d : Int) (hv : goalv p q P G = (n, d)) :
    (∃ r : Int × Int,
      (Mth.Evn (fun k => (spec_l1Abs.f (wrap64 (wrap64 (n * G) - wrap64 (d * P)))).bind fun t138 => (spec_l1Abs.f (wrap64 (p - q))).bind fun t139 => (spec_cnLow.f k t138 t139).bind fun bt140 => (spec_cnLow.f k (wrap64 (p + q)) d).bind fun bt142 => (spec_cnLow.f k bt140.1 bt142.2).bind fun bt144 => (spec_cnLow.f k bt142.1 bt140.2).bind fun bt146 => some (wrap64 (bt144.1 * bt146.1), wrap64 (bt146.2 * bt144.2), true)) (r.1, r.2, true)) ∧
      (Mth.Evn (fun k => impl_lowest.f k (wrap64 (wrap64 (wrap64 (P * d) - wrap64 (G * n)) * wrap64 (p + q))) (wrap64 (wrap64 (q - p) * d))) r)) := by
  have gb := goalv_bd p q P G hp hp9 hq hq9 hP hPG hG1 hG
  have gs := gain_sign p q P G hp hq hne hP hPG hG1
  rw [hv] at gb gs
  obtain ⟨g1, g2, g3, g4⟩ := gb
  simp only at g1 g2 g3 g4 gs
  have m1 : 0 ≤ G * n ∧ G * n ≤ 16 * 3294258113514384 := ⟨Int.mul_nonneg (by omega) g1, Int.mul_le_mul hG (by omega) g1 (by omega)⟩
  have m2 : 0 ≤ P * d ∧ P * d ≤ 16 * 3294258113514384 := ⟨Int.mul_nonneg hP (by omega), Int.mul_le_mul (by omega) g4 (by omega) (by omega)⟩
  rw [Int.mul_comm n G, Int.mul_comm d P]
  -- what is gained, and what each play gains, without their sign
  have hgn : ∃ gn L : Int, gn = ((G * n - P * d).natAbs : Int) ∧ L = ((p - q).natAbs : Int) ∧ (P * d - G * n) * L = gn * (q - p) := by
    refine ⟨_, _, rfl, rfl, ?_⟩
    rcases Int.lt_or_gt_of_ne hne with h | h
    · have := gs.2 h
      rw [show (((p - q).natAbs : Nat) : Int) = q - p by omega, show (((G * n - P * d).natAbs : Nat) : Int) = P * d - G * n by omega]
    · have := gs.1 h
      rw [show (((p - q).natAbs : Nat) : Int) = -(q - p) by omega, show (((G * n - P * d).natAbs : Nat) : Int) = -(P * d - G * n) by omega, Int.mul_neg, Int.neg_mul]
  obtain ⟨gn, L, egn, eL, hs⟩ := hgn
  have gn0 : 0 ≤ gn ∧ gn ≤ 60000000000000000 := by omega
  have L0 : 0 < L ∧ L ≤ 8 := by omega
  obtain ⟨⟨a1, a2, a3, a4⟩, ⟨b1, b2, b3, b4⟩, c1, c2⟩ := cross_bd gn L (p + q) d gn0.1 gn0.2 L0.1 L0.2 (by omega) (by omega) g3 g4
  refine ⟨cross gn L (p + q) d, ?_, ?_⟩
  · have w1 : wrap64 (G * n) = G * n := wrap_id (by omega) (by omega)
    have w2 : wrap64 (P * d) = P * d := wrap_id (by omega) (by omega)
    have w3 : wrap64 (G * n - P * d) = G * n - P * d := wrap_id (by omega) (by omega)
    have w4 : wrap64 (p - q) = p - q := wrap_id (by omega) (by omega)
    have w5 : wrap64 (p + q) = p + q := wrap_id (by omega) (by omega)
    refine Mth.Evn.congr (fun k => by rw [w1, w2, w3, w4, w5, abs_eq _ (by omega) (by omega), abs_eq _ (by omega) (by omega), ← egn, ← eL]) ?_
    simp only [Option.bind_some]
    refine (cnLow_ev gn L gn0.1 (by omega) L0.1 (by omega)).bind ?_
    refine (cnLow_ev (p + q) d (by omega) (by omega) g3 (by omega)).bind ?_
    refine (cnLow_ev _ _ a1 (by omega) b3 (by omega)).bind ?_
    refine (cnLow_ev _ _ b1 (by omega) a3 (by omega)).bind ?_
    refine Mth.Evn.congr (fun k => ?_) (Mth.Evn.now _)
    unfold cross at c1 c2 ⊢
    rw [wrap_id (by omega) (by omega), wrap_id (by omega) (by omega)]
  · have w1 : wrap64 (G * n) = G * n := wrap_id (by omega) (by omega)
    have w2 : wrap64 (P * d) = P * d := wrap_id (by omega) (by omega)
    have w3 : wrap64 (P * d - G * n) = P * d - G * n := wrap_id (by omega) (by omega)
    have w4 : wrap64 (q - p) = q - p := wrap_id (by omega) (by omega)
    have w5 : wrap64 (p + q) = p + q := wrap_id (by omega) (by omega)
    have hD : (q - p) * d ≠ 0 := Int.mul_ne_zero (by omega) (by omega)
    have m3 : -(8 * 3294258113514384) ≤ (q - p) * d ∧ (q - p) * d ≤ 8 * 3294258113514384 := by
      have u1 := Int.mul_le_mul_of_nonneg_right (show q - p ≤ 8 by omega) (show 0 ≤ d by omega)
      have u2 := Int.mul_le_mul_of_nonneg_right (show -8 ≤ q - p by omega) (show 0 ≤ d by omega)
      omega
    have m4 : -(60000000000000000 * 18) ≤ (P * d - G * n) * (p + q) ∧ (P * d - G * n) * (p + q) ≤ 60000000000000000 * 18 := by
      have u1 := Int.mul_le_mul_of_nonneg_right (show P * d - G * n ≤ 60000000000000000 by omega) (show 0 ≤ p + q by omega)
      have u2 := Int.mul_le_mul_of_nonneg_right (show -60000000000000000 ≤ P * d - G * n by omega) (show 0 ≤ p + q by omega)
      have u3 := Int.mul_le_mul_of_nonneg_left (show p + q ≤ 18 by omega) (show (0 : Int) ≤ 60000000000000000 by omega)
      omega
    have E : Mth.low ((P * d - G * n) * (p + q)) ((q - p) * d) = cross gn L (p + q) d := by
      refine cross_low gn L (p + q) d L0.1 g3 _ _ hD ?_
      have t1 : (P * d - G * n) * (p + q) * (L * d) = ((P * d - G * n) * L) * ((p + q) * d) := by ac_rfl
      rw [t1, hs]; ac_rfl
    rw [← E]
    refine Mth.Evn.congr (fun k => by rw [w1, w2, w3, w4, w5, wrap_id (x := (P * d - G * n) * (p + q)) (by omega) (by omega), wrap_id (x := (q - p) * d) (by omega) (by omega)]) ?_
    exact lowest_ev _ _ (by omega) (by omega) (by omega) (by omega) hD
theorem holds (a0_0 : Int) (a0_1 : Int) (a1_0 : Int) (a1_1 : Int) (w0_0 : (Lit.int .i64 a0_0).wf = true) (w0_1 : (Lit.int .i64 a0_1).wf = true) (w1_0 : (Lit.int .i64 a1_0).wf = true) (w1_1 : (Lit.int .i64 a1_1).wf = true) : ∃ k, laws_FnExactMeanPlays.f k a0_0 a0_1 a1_0 a1_1 = some true := by
  refine Mth.Evn.get (f := fun k => laws_FnExactMeanPlays.f k a0_0 a0_1 a1_0 a1_1) ?_
  by_cases h : ((2 ≤ a0_1 ∧ a0_1 ≤ 10) ∧ (1 ≤ a0_0 ∧ a0_0 ≤ a0_1 - 1)) ∧ ((1 ≤ a1_1 ∧ a1_1 ≤ 16) ∧ (0 ≤ a1_0 ∧ a1_0 ≤ a1_1))
  · have hd := decide_eq_true h
    obtain ⟨⟨⟨h1, h2⟩, h3, h4⟩, ⟨h5, h6⟩, h7, h8⟩ := h
    have hc := decide_eq_true (show (2 ≤ a0_1 ∧ a0_1 ≤ 10) ∧ 1 ≤ a0_0 ∧ a0_0 ≤ a0_1 - 1 from ⟨⟨h1, h2⟩, h3, h4⟩)
    have hs := decide_eq_true (show (1 ≤ a1_1 ∧ a1_1 ≤ 16) ∧ 0 ≤ a1_0 ∧ a1_0 ≤ a1_1 from ⟨⟨h5, h6⟩, h7, h8⟩)
    obtain ⟨⟨p1, p2⟩, q1, q2⟩ := odds_bd h1 h2 h3 h4
    obtain ⟨K1, hK1⟩ := skCoin_ev h1 h2 h3 h4
    obtain ⟨K2, hK2⟩ := odds_ev h1 h2 h3 h4
    by_cases e : (odds a0_0 a0_1).1 = (odds a0_0 a0_1).2
    · refine ⟨max K1 K2 + 1, fun k hk => ?_⟩
      obtain ⟨m, rfl⟩ : ∃ m, k = m + 1 := ⟨k - 1, by omega⟩
      have e1 := hK1 (m + 1) (by omega)
      have e2 := hK2 m (by omega)
      simp only at e1 e2
      simp only [laws_FnExactMeanPlays.f, laws_toCoin.f, laws_toStakes.f, spec_MeanPlays.f, impl_MeanPlays.f, impl_MeanPlays.j0, impl_whole.f, impl_frac_told.f, skAsked_eq, IsCoin_eq, AreStakes_eq, Option.bind_some, hd, hc, hs, if_true, Bool.not_true, Bool.false_eq_true, if_false, e1, e2, e]
      simp
    · obtain ⟨K3, hK3⟩ := skGoal_ev h1 h2 h3 h4 a1_0 a1_1 h7 h8 h5 h6
      obtain ⟨K4, hK4⟩ := goal_ev h1 h2 h3 h4 a1_0 a1_1 h7 h8 h5 h6
      obtain ⟨⟨n, d⟩, hv⟩ : ∃ v, goalv (odds a0_0 a0_1).1 (odds a0_0 a0_1).2 a1_0 a1_1 = v := ⟨_, rfl⟩
      obtain ⟨r, ⟨K5, hK5⟩, K6, hK6⟩ := mean_core _ _ a1_0 a1_1 p1 p2 q1 q2 e h7 h8 h5 h6 n d hv
      refine ⟨max (max (max K1 K2) (max K3 K4)) (max K5 K6) + 1, fun k hk => ?_⟩
      obtain ⟨m, rfl⟩ : ∃ m, k = m + 1 := ⟨k - 1, by omega⟩
      have e1 := hK1 (m + 1) (by omega)
      have e2 := hK2 m (by omega)
      have e3 := hK3 (m + 1) (by omega)
      have e4 := hK4 m (by omega)
      have e5 := hK5 (m + 1) (by omega)
      have e6 := hK6 m (by omega)
      simp only [hv] at e1 e2 e3 e4
      simp only at e5 e6
      simp only [laws_FnExactMeanPlays.f, laws_toCoin.f, laws_toStakes.f, spec_MeanPlays.f, impl_MeanPlays.f, impl_MeanPlays.j0, impl_whole.f, impl_frac_told.f, skAsked_eq, IsCoin_eq, AreStakes_eq, Option.bind_some, hd, hc, hs, if_true, Bool.not_true, Bool.false_eq_true, if_false, e1, e2, e, e3, e4]
      rw [e5, e6]
      simp
  · have hd := decide_eq_false h
    refine ⟨1, fun k hk => ?_⟩
    obtain ⟨m, rfl⟩ : ∃ m, k = m + 1 := ⟨k - 1, by omega⟩
    simp only [laws_FnExactMeanPlays.f, laws_toCoin.f, laws_toStakes.f, spec_MeanPlays.f, impl_MeanPlays.f, impl_MeanPlays.j0, skAsked_eq, IsCoin_eq, AreStakes_eq, Option.bind_some, hd]
    by_cases h1 : (2 ≤ a0_1 ∧ a0_1 ≤ 10) ∧ (1 ≤ a0_0 ∧ a0_0 ≤ a0_1 - 1)
    · have h2 : ¬ ((1 ≤ a1_1 ∧ a1_1 ≤ 16) ∧ (0 ≤ a1_0 ∧ a1_0 ≤ a1_1)) := fun h2 => h ⟨h1, h2⟩
      rw [decide_eq_true h1, decide_eq_false h2]; simp
    · rw [decide_eq_false h1]; simp
end Go.Proofs.Ytkcpmdkjhpbmfaa.PureFnExactMeanPlays
