/- The pure statement of FnExactNeededPurse. No condition. -/
import Derived.Test.YtkcpmdkjhpbmfaaPFnExactNeededPursex3
import Derived.Test.YtkcpmdkjhpbmfaaMath
import Derived.OpenShut
namespace Go.Proofs.Ytkcpmdkjhpbmfaa.PureFnExactNeededPurse
open Go Go.RowKit Go.Proofs.Ytkcpmdkjhpbmfaa.PFnExactNeededPurse Go.Proofs.YtkcpmdkjhpbmfaaW.PrintWords Go.Proofs.YtkcpmdkjhpbmfaaW.PrintLast Go.Proofs.YtkcpmdkjhpbmfaaW.PrintMore
set_option linter.unusedVariables false
set_option linter.unusedSimpArgs false

theorem wrap_id {x : Int} (h : -9223372036854775808 ≤ x) (h' : x ≤ 9223372036854775807) : wrap64 x = x := by unfold wrap64; omega
theorem ite_dec (p q : Prop) [Decidable p] [Decidable q] : (if decide p = true then some (decide q) else some false) = some (decide (p ∧ q)) := by
  by_cases h : p <;> simp [h]
theorem some_dec {p q : Prop} [Decidable p] [Decidable q] (h : p ↔ q) : some (decide p) = some (decide q) := by rw [decide_eq_decide.2 h]
theorem l1In_eq (a b c : Int) : spec_l1In.f a b c = some (decide (b ≤ a ∧ a ≤ c)) := by
  unfold spec_l1In.f
  by_cases h : a ≥ b
  · rw [if_pos h]; simp [show b ≤ a from h]
  · rw [if_neg h]; simp; omega
theorem within_eq (a b c : Int) : impl_within.f a b c = some (decide (b ≤ a ∧ a ≤ c)) := by
  unfold impl_within.f
  by_cases h : a ≥ b
  · rw [if_pos h]; simp [show b ≤ a from h]
  · rw [if_neg h]; simp; omega
theorem ptCoin_eq (h o : Int) : spec_ptCoin.f h o = some (decide ((2 ≤ o ∧ o ≤ 10) ∧ (1 ≤ h ∧ h ≤ o - 1))) := by
  unfold spec_ptCoin.f; simp only [l1In_eq, Option.bind_some]
  by_cases h1 : 2 ≤ o ∧ o ≤ 10
  · rw [wrap_id (x := o - 1) (by omega) (by omega)]; simp [h1]
  · simp [h1]
theorem IsCoin_eq (h o : Int) : impl_IsCoin.f h o = some (decide ((2 ≤ o ∧ o ≤ 10) ∧ (1 ≤ h ∧ h ≤ o - 1))) := by
  unfold impl_IsCoin.f; simp only [within_eq, Option.bind_some]
  by_cases h1 : 2 ≤ o ∧ o ≤ 10
  · rw [wrap_id (x := o - 1) (by omega) (by omega)]; simp [h1]
  · simp [h1]
theorem cnLow_l0 (x0 x1 : Int) (n : Nat) : ∀ (k : Nat) (a b : Int), 0 ≤ a → 0 ≤ b → b.toNat ≤ n → n < k → Int.gcd a b ≠ 0 →
    spec_cnLow.l0 k x0 x1 a b = some (wrap64 (Int.tdiv x0 (Int.gcd a b)), wrap64 (Int.tdiv x1 (Int.gcd a b))) := by
  induction n with
  | zero =>
    intro k a b ha hb hn hk hg
    obtain ⟨k, rfl⟩ : ∃ m, k = m + 1 := ⟨k - 1, by omega⟩
    obtain rfl : b = 0 := by omega
    have e : ((Int.gcd a 0 : Nat) : Int) = a := by rw [Int.gcd_zero_right]; omega
    have h0 : a ≠ 0 := by intro h; subst h; exact hg rfl
    simp only [spec_cnLow.l0]
    rw [if_neg (by omega), if_neg h0, e]
  | succ n ih =>
    intro k a b ha hb hn hk hg
    obtain ⟨k, rfl⟩ : ∃ m, k = m + 1 := ⟨k - 1, by omega⟩
    simp only [spec_cnLow.l0]
    by_cases h : b > 0
    · have h1 := Int.tmod_nonneg b ha
      have h2 := Int.tmod_lt_of_pos a h
      rw [if_pos h, if_neg (by omega), ih k b (a.tmod b) hb h1 (by omega) (by omega) (by rw [Mth.gcd_step]; exact hg), Mth.gcd_step]
    · obtain rfl : b = 0 := by omega
      have e : ((Int.gcd a 0 : Nat) : Int) = a := by rw [Int.gcd_zero_right]; omega
      have h0 : a ≠ 0 := by intro h; subst h; exact hg rfl
      rw [if_neg (by omega), if_neg h0, e]
theorem div_in {x g : Int} {M : Int} (hM : M ≤ 9223372036854775807) (h : -M ≤ x) (h' : x ≤ M) (hd : g ∣ x) (h0 : g ≠ 0) : wrap64 (Int.tdiv x g) = x / g := by
  rw [Int.tdiv_eq_ediv_of_dvd hd]
  obtain ⟨c, rfl⟩ := hd
  rw [Int.mul_ediv_cancel_left _ h0]
  have : c.natAbs ≤ (g * c).natAbs := by rw [Int.natAbs_mul]; exact Nat.le_mul_of_pos_left _ (by omega)
  exact wrap_id (by omega) (by omega)
theorem cnLow_eq (k : Nat) (a b : Int) (ha : 0 ≤ a) (ha' : a ≤ 9223372036854775807) (hb : 0 < b) (hb' : b ≤ 9223372036854775807) (hk : b.toNat < k) : spec_cnLow.f k a b = some (Mth.low a b) := by
  have hg := Int.gcd_pos_of_ne_zero_right a (b := b) (by omega)
  unfold spec_cnLow.f
  rw [cnLow_l0 a b b.toNat k a b ha (by omega) (Nat.le_refl _) hk (by omega)]
  rw [div_in (M := 9223372036854775807) (by omega) (by omega) ha' (Int.gcd_dvd_left a b) (by omega), div_in (M := 9223372036854775807) (by omega) (by omega) hb' (Int.gcd_dvd_right a b) (by omega)]
  unfold Mth.low Mth.dv
  rw [if_neg (by omega)]
theorem common_l0 (n : Nat) : ∀ (k : Nat) (a b : Int), 0 ≤ a → 0 ≤ b → b.toNat ≤ n → n < k → impl_common.l0 k a b = some (Int.gcd a b : Int) := by
  induction n with
  | zero =>
    intro k a b ha hb hn hk
    obtain ⟨k, rfl⟩ : ∃ m, k = m + 1 := ⟨k - 1, by omega⟩
    have hb0 : b = 0 := by omega
    simp only [impl_common.l0]
    rw [if_pos hb0, hb0, Int.gcd_zero_right]; congr 1; omega
  | succ n ih =>
    intro k a b ha hb hn hk
    obtain ⟨k, rfl⟩ : ∃ m, k = m + 1 := ⟨k - 1, by omega⟩
    simp only [impl_common.l0]
    by_cases h : b = 0
    · rw [if_pos h, h, Int.gcd_zero_right]; congr 1; omega
    · have h1 := Int.tmod_nonneg b ha
      have h2 := Int.tmod_lt_of_pos a (b := b) (by omega)
      rw [if_neg h, ih k b (a.tmod b) hb h1 (by omega) (by omega), Mth.gcd_step]
theorem mx_abs (a : Int) (h : -9223372036854775807 ≤ a) (h' : a ≤ 9223372036854775807) : mx a (wrap64 (-a)) = (a.natAbs : Int) := by
  rw [wrap_id (by omega) (by omega)]; unfold mx; split <;> omega
theorem common_eq (k : Nat) (a b : Int) (ha : -9223372036854775807 ≤ a) (ha' : a ≤ 9223372036854775807) (hb : -9223372036854775807 ≤ b) (hb' : b ≤ 9223372036854775807) (hk : b.natAbs < k) :
    impl_common.f k a b = some (Int.gcd a b : Int) := by
  unfold impl_common.f
  rw [mx_abs a ha ha', mx_abs b hb hb', common_l0 b.natAbs k _ _ (by omega) (by omega) (by omega) hk]
  simp [Int.gcd]
theorem lowest_eq (k : Nat) (a b : Int) (ha : -9223372036854775807 ≤ a) (ha' : a ≤ 9223372036854775807) (hb : -9223372036854775807 ≤ b) (hb' : b ≤ 9223372036854775807) (h0 : b ≠ 0) (hk : b.natAbs < k) :
    impl_lowest.f k a b = some (Mth.low a b) := by
  have hg := Int.gcd_pos_of_ne_zero_right a h0
  have hl : Int.gcd a b ≤ b.natAbs := Nat.le_of_dvd (by omega) (Int.gcd_dvd_natAbs_right a b)
  unfold impl_lowest.f
  rw [common_eq k a b ha ha' hb hb' hk]
  simp only [Option.bind_some]
  by_cases h : b < 0
  · have e : wrap64 (-((Int.gcd a b : Nat) : Int)) = -((Int.gcd a b : Nat) : Int) := wrap_id (by omega) (by omega)
    rw [if_pos h, e, if_neg (by omega), div_in (M := 9223372036854775807) (by omega) (by omega) ha' (Int.neg_dvd.2 (Int.gcd_dvd_left a b)) (by omega), div_in (M := 9223372036854775807) (by omega) (by omega) hb' (Int.neg_dvd.2 (Int.gcd_dvd_right a b)) (by omega)]
    unfold Mth.low Mth.dv
    rw [if_pos h]
  · rw [if_neg h, if_neg (by omega), div_in (M := 9223372036854775807) (by omega) (by omega) ha' (Int.gcd_dvd_left a b) (by omega), div_in (M := 9223372036854775807) (by omega) (by omega) hb' (Int.gcd_dvd_right a b) (by omega)]
    unfold Mth.low Mth.dv
    rw [if_neg h]

theorem nine16 {n : Nat} (h : n ≤ 16) : (9 : Int) ^ n ≤ 1853020188851841 := Int.le_trans (Mth.pow_le_M 9 (by omega) n 16 h) (by decide)
theorem nine15 {n : Nat} (h : n ≤ 15) : (9 : Int) ^ n ≤ 205891132094649 := Int.le_trans (Mth.pow_le_M 9 (by omega) n 15 h) (by decide)
theorem pow9 (x : Int) (h : 0 ≤ x) (h9 : x ≤ 9) (n : Nat) (hn : n ≤ 16) : 0 ≤ x ^ n ∧ x ^ n ≤ 1853020188851841 := by
  have := Mth.pow_bd x 9 h h9 n
  have := nine16 hn
  omega
theorem skPower_l0 (x : Int) (h : 0 ≤ x) (h9 : x ≤ 9) : ∀ (d j : Nat), j + d ≤ 16 → Mth.Evn (fun k => spec_skPower.l0 k x (d : Int) (x ^ j)) (x ^ (j + d))
  | 0, j, hd => by
    refine (Mth.Evn.now _).step fun k => ?_
    simp only [spec_skPower.l0]
    rw [if_neg (by omega)]; rfl
  | d + 1, j, hd => by
    have ih := skPower_l0 x h h9 d (j + 1) (by omega)
    rw [show j + 1 + d = j + (d + 1) by omega] at ih
    have b := pow9 x h h9 (j + 1) (by omega)
    refine ih.step fun k => ?_
    simp only [spec_skPower.l0]
    rw [Int.pow_succ] at b
    rw [if_pos (by omega), wrap_id (x := ((d + 1 : Nat) : Int) - 1) (by omega) (by omega), wrap_id (x := x ^ j * x) (by omega) (by omega), ← Int.pow_succ, show ((d + 1 : Nat) : Int) - 1 = d by omega]
theorem skPower_ev (x n : Int) (h : 0 ≤ x) (h9 : x ≤ 9) (hn : 0 ≤ n) (hn' : n ≤ 16) : Mth.Evn (fun k => spec_skPower.f k x n) (x ^ n.toNat) := by
  have := skPower_l0 x h h9 n.toNat 0 (by omega)
  rw [Nat.zero_add, show ((n.toNat : Nat) : Int) = n by omega, Int.pow_zero] at this
  exact this
theorem power_l0 (x : Int) (h : 0 ≤ x) (h9 : x ≤ 9) (n : Int) (hn' : n ≤ 16) : ∀ (d j : Nat), (j : Int) + d = n → Mth.Evn (fun k => impl_power.l0 k x (x ^ j) n (j : Int)) (x ^ (j + d))
  | 0, j, hd => by
    refine (Mth.Evn.now _).step fun k => ?_
    simp only [impl_power.l0]
    rw [if_neg (by omega)]; rfl
  | d + 1, j, hd => by
    have ih := power_l0 x h h9 n hn' d (j + 1) (by omega)
    rw [show j + 1 + d = j + (d + 1) by omega] at ih
    have b := pow9 x h h9 (j + 1) (by omega)
    refine ih.step fun k => ?_
    simp only [impl_power.l0]
    rw [Int.pow_succ] at b
    rw [if_pos (by omega), wrap_id (x := (j : Int) + 1) (by omega) (by omega), wrap_id (x := x ^ j * x) (by omega) (by omega), ← Int.pow_succ, show ((j + 1 : Nat) : Int) = (j : Int) + 1 by omega]
theorem power_ev (x n : Int) (h : 0 ≤ x) (h9 : x ≤ 9) (hn : 0 ≤ n) (hn' : n ≤ 16) : Mth.Evn (fun k => impl_power.f k x n) (x ^ n.toNat) := by
  have := power_l0 x h h9 n hn' n.toNat 0 (by omega)
  rw [Nat.zero_add, Int.pow_zero] at this
  exact this
theorem cnLow_ev (a b : Int) (ha : 0 ≤ a) (ha' : a ≤ 9223372036854775807) (hb : 0 < b) (hb' : b ≤ 9223372036854775807) : Mth.Evn (fun k => spec_cnLow.f k a b) (Mth.low a b) :=
  ⟨b.toNat + 1, fun k hk => cnLow_eq k a b ha ha' hb hb' (by omega)⟩
theorem lowest_ev (a b : Int) (ha : -9223372036854775807 ≤ a) (ha' : a ≤ 9223372036854775807) (hb : -9223372036854775807 ≤ b) (hb' : b ≤ 9223372036854775807) (h0 : b ≠ 0) : Mth.Evn (fun k => impl_lowest.f k a b) (Mth.low a b) :=
  ⟨b.natAbs + 1, fun k hk => lowest_eq k a b ha ha' hb hb' h0 (by omega)⟩

/-- A coin's heads and tails without a common divisor. -/
def odds (h o : Int) : Int × Int := Mth.low h (o - h)
theorem odds_bd {h o : Int} (ho : 2 ≤ o) (ho' : o ≤ 10) (hh : 1 ≤ h) (hh' : h ≤ o - 1) : (1 ≤ (odds h o).1 ∧ (odds h o).1 ≤ 9) ∧ (1 ≤ (odds h o).2 ∧ (odds h o).2 ≤ 9) := by
  unfold odds
  have a := Mth.low_num_le (n := h) (d := o - h) (by omega) (by omega)
  have b := Mth.low_den_le (n := h) (d := o - h) (by omega)
  have c := Mth.low_pos (n := h) (d := o - h) (by omega)
  have d := Mth.low_nonneg (n := h) (d := o - h) (by omega) (by omega)
  have e : (Mth.low h (o - h)).1 ≠ 0 := by
    intro h0
    have := Mth.low_num h (o - h)
    rw [h0, Int.mul_zero] at this; omega
  omega
theorem skCoin_ev {h o : Int} (ho : 2 ≤ o) (ho' : o ≤ 10) (hh : 1 ≤ h) (hh' : h ≤ o - 1) : Mth.Evn (fun k => spec_skCoin.f k h o) (odds h o) := by
  refine Mth.Evn.congr (g := fun k => (spec_cnLow.f k h (o - h)).bind fun b => some (b.1, b.2)) (fun k => ?_) ((cnLow_ev h (o - h) (by omega) (by omega) (by omega) (by omega)).bind (Mth.Evn.now _))
  unfold spec_skCoin.f
  rw [wrap_id (x := o - h) (by omega) (by omega)]
theorem odds_ev {h o : Int} (ho : 2 ≤ o) (ho' : o ≤ 10) (hh : 1 ≤ h) (hh' : h ≤ o - 1) : Mth.Evn (fun k => impl_Coin_odds.f k h o) (odds h o) := by
  refine Mth.Evn.congr (g := fun k => (impl_lowest.f k h (o - h)).bind fun b => some (b.1, b.2)) (fun k => ?_) ((lowest_ev h (o - h) (by omega) (by omega) (by omega) (by omega) (by omega)).bind (Mth.Evn.now _))
  unfold impl_Coin_odds.f
  rw [wrap_id (x := o - h) (by omega) (by omega)]

/-- The chance to come to the goal. -/
def goalv (p q P G : Int) : Int × Int := if p = q then Mth.low P G else Mth.low (Mth.S p q G.toNat P.toNat) (Mth.S p q G.toNat G.toNat)
theorem S_in (p q : Int) (hp : 1 ≤ p) (hp9 : p ≤ 9) (hq : 1 ≤ q) (hq9 : q ≤ 9) (G P : Nat) (hG : G ≤ 16) (hP : P ≤ G) : 0 ≤ Mth.S p q G P ∧ Mth.S p q G P ≤ 3294258113514384 := by
  have a := Mth.S_bd p q 9 (by omega) hp9 (by omega) hq9 G P hP
  have b := nine15 (n := G - 1) (by omega)
  have c : (P : Int) * 9 ^ (G - 1) ≤ 16 * 205891132094649 := Int.mul_le_mul (by omega) b (Mth.pow_bd 9 9 (by omega) (by omega) _).1 (by omega)
  omega
theorem skGoal_l0 (p q P G : Int) (hp : 1 ≤ p) (hp9 : p ≤ 9) (hq : 1 ≤ q) (hq9 : q ≤ 9) (hP : 0 ≤ P) (hPG : P ≤ G) (hG1 : 1 ≤ G) (hG : G ≤ 16) : ∀ (d i : Nat), (i : Int) + d = G →
    Mth.Evn (fun k => spec_skGoal.l0 k p q (Mth.S p q G.toNat (min i P.toNat)) (Mth.S p q G.toNat i) (i : Int) P G) (Mth.low (Mth.S p q G.toNat P.toNat) (Mth.S p q G.toNat G.toNat))
  | 0, i, hi => by
    have e : i = G.toNat := by omega
    have e1 : min i P.toNat = P.toNat := by omega
    rw [e1, e]
    have b1 := S_in p q hp hp9 hq hq9 G.toNat P.toNat (by omega) (by omega)
    have b2 := S_in p q hp hp9 hq hq9 G.toNat G.toNat (by omega) (by omega)
    have b3 := Mth.S_pos p q hp (by omega) G.toNat G.toNat (by omega)
    refine Mth.Evn.step (g := fun k => (spec_cnLow.f k (Mth.S p q G.toNat P.toNat) (Mth.S p q G.toNat G.toNat)).bind fun b => some (b.1, b.2)) (fun k => ?_) ((cnLow_ev _ _ (by omega) (by omega) (by omega) (by omega)).bind (Mth.Evn.now _))
    simp only [spec_skGoal.l0]
    rw [if_neg (by omega)]
  | d + 1, i, hi => by
    have ih := skGoal_l0 p q P G hp hp9 hq hq9 hP hPG hG1 hG d (i + 1) (by omega)
    have w1 := skPower_ev q i (by omega) hq9 (by omega) (by omega)
    have w2 := skPower_ev p (G - 1 - i) (by omega) hp9 (by omega) (by omega)
    have t := Mth.term_bd p q 9 (by omega) hp9 (by omega) hq9 i (G.toNat - 1 - i)
    have t9 := nine15 (n := i + (G.toNat - 1 - i)) (by omega)
    have b2 := S_in p q hp hp9 hq hq9 G.toNat (i + 1) (by omega) (by omega)
    have b1 := S_in p q hp hp9 hq hq9 G.toNat i (by omega) (by omega)
    have eS : Mth.S p q G.toNat (i + 1) = Mth.S p q G.toNat i + q ^ i * p ^ (G.toNat - 1 - i) := rfl
    have e1 : ((i : Int)).toNat = i := by omega
    have e2 : (G - 1 - (i : Int)).toNat = G.toNat - 1 - i := by omega
    rw [e1] at w1
    rw [e2] at w2
    refine Mth.Evn.step (g := fun k => (spec_skPower.f k q i).bind fun t1 => (spec_skPower.f k p (G - 1 - i)).bind fun t2 => if (i : Int) < P then spec_skGoal.l0 k p q (wrap64 (Mth.S p q G.toNat (min i P.toNat) + wrap64 (t1 * t2))) (wrap64 (Mth.S p q G.toNat i + wrap64 (t1 * t2))) (wrap64 ((i : Int) + 1)) P G else spec_skGoal.l0 k p q (Mth.S p q G.toNat (min i P.toNat)) (wrap64 (Mth.S p q G.toNat i + wrap64 (t1 * t2))) (wrap64 ((i : Int) + 1)) P G) (fun k => ?_) ?_
    · simp only [spec_skGoal.l0]
      rw [if_pos (by omega), wrap_id (x := G - 1) (by omega) (by omega), wrap_id (x := G - 1 - i) (by omega) (by omega)]
    · refine w1.bind (w2.bind ?_)
      refine ih.congr fun k => ?_
      rw [wrap_id (x := q ^ i * p ^ (G.toNat - 1 - i)) (by omega) (by omega), wrap_id (x := (i : Int) + 1) (by omega) (by omega), wrap_id (x := Mth.S p q G.toNat i + q ^ i * p ^ (G.toNat - 1 - i)) (by omega) (by omega), ← eS, show ((i + 1 : Nat) : Int) = (i : Int) + 1 by omega]
      by_cases hlt : (i : Int) < P
      · rw [if_pos hlt, show min i P.toNat = i by omega, show min (i + 1) P.toNat = i + 1 by omega, wrap_id (x := Mth.S p q G.toNat i + q ^ i * p ^ (G.toNat - 1 - i)) (by omega) (by omega), ← eS]
      · rw [if_neg hlt, show min i P.toNat = P.toNat by omega, show min (i + 1) P.toNat = P.toNat by omega]
theorem skGoal_ev {h o : Int} (ho : 2 ≤ o) (ho' : o ≤ 10) (hh : 1 ≤ h) (hh' : h ≤ o - 1) (P G : Int) (hP : 0 ≤ P) (hPG : P ≤ G) (hG1 : 1 ≤ G) (hG : G ≤ 16) : Mth.Evn (fun k => spec_skGoal.f k h o P G) (goalv (odds h o).1 (odds h o).2 P G) := by
  obtain ⟨⟨p1, p2⟩, q1, q2⟩ := odds_bd ho ho' hh hh'
  refine (skCoin_ev ho ho' hh hh').bind ?_
  unfold goalv
  by_cases e : (odds h o).1 = (odds h o).2
  · rw [if_pos e]
    refine Mth.Evn.congr (fun k => if_pos e) ?_
    exact (cnLow_ev P G (by omega) (by omega) (by omega) (by omega)).bind (Mth.Evn.now _)
  · rw [if_neg e]
    refine Mth.Evn.congr (fun k => if_neg e) ?_
    have := skGoal_l0 (odds h o).1 (odds h o).2 P G p1 p2 q1 q2 hP hPG hG1 hG G.toNat 0 (by omega)
    rw [Nat.zero_min] at this
    exact this
theorem goal_ev {h o : Int} (ho : 2 ≤ o) (ho' : o ≤ 10) (hh : 1 ≤ h) (hh' : h ≤ o - 1) (P G : Int) (hP : 0 ≤ P) (hPG : P ≤ G) (hG1 : 1 ≤ G) (hG : G ≤ 16) : Mth.Evn (fun k => impl_Coin_goal.f k h o P G) (goalv (odds h o).1 (odds h o).2 P G) := by
  obtain ⟨⟨p1, p2⟩, q1, q2⟩ := odds_bd ho ho' hh hh'
  refine (odds_ev ho ho' hh hh').bind ?_
  generalize (odds h o).1 = p at *
  generalize (odds h o).2 = q at *
  unfold goalv
  by_cases e : p = q
  · rw [if_pos e]
    refine Mth.Evn.congr (fun k => if_pos e) ?_
    exact (lowest_ev P G (by omega) (by omega) (by omega) (by omega) (by omega)).bind (Mth.Evn.now _)
  · rw [if_neg e]
    refine Mth.Evn.congr (fun k => if_neg e) ?_
    have e1 : wrap64 (G - P) = G - P := wrap_id (by omega) (by omega)
    refine Mth.Evn.congr (fun k => by rw [e1]) ?_
    refine (power_ev p (G - P) (by omega) p2 (by omega) (by omega)).bind ?_
    refine (power_ev p P (by omega) p2 (by omega) (by omega)).bind ?_
    refine (power_ev q P (by omega) q2 (by omega) (by omega)).bind ?_
    refine (power_ev p G (by omega) p2 (by omega) (by omega)).bind ?_
    refine (power_ev q G (by omega) q2 (by omega) (by omega)).bind ?_
    have m1 := Mth.S_mul p q G.toNat P.toNat (by omega)
    have m2 := Mth.S_mul p q G.toNat G.toNat (by omega)
    rw [Nat.sub_self, Int.pow_zero, Int.one_mul] at m2
    rw [show G.toNat - P.toNat = (G - P).toNat by omega] at m1
    have b1 := S_in p q p1 p2 q1 q2 G.toNat P.toNat (by omega) (by omega)
    have b2 := S_in p q p1 p2 q1 q2 G.toNat G.toNat (by omega) (by omega)
    have b3 := Mth.S_pos p q p1 (by omega) G.toNat G.toNat (by omega)
    have c1 := pow9 p (by omega) p2 P.toNat (by omega)
    have c2 := pow9 q (by omega) q2 P.toNat (by omega)
    have c3 := pow9 p (by omega) p2 G.toNat (by omega)
    have c4 := pow9 q (by omega) q2 G.toNat (by omega)
    have lo : ∀ s : Int, 0 ≤ s → s ≤ 3294258113514384 → -26354064908115072 ≤ (p - q) * s ∧ (p - q) * s ≤ 26354064908115072 := by
      intro s s0 s1
      have u1 := Int.mul_le_mul_of_nonneg_right (show p - q ≤ 8 by omega) s0
      have u2 := Int.mul_le_mul_of_nonneg_right (show -8 ≤ p - q by omega) s0
      omega
    have l1 := lo _ b1.1 b1.2
    have l2 := lo _ b2.1 b2.2
    have w1 : wrap64 (p ^ P.toNat - q ^ P.toNat) = p ^ P.toNat - q ^ P.toNat := wrap_id (by omega) (by omega)
    have w2 : wrap64 (p ^ G.toNat - q ^ G.toNat) = p ^ G.toNat - q ^ G.toNat := wrap_id (by omega) (by omega)
    have n0 : (p - q) * Mth.S p q G.toNat G.toNat ≠ 0 := Int.mul_ne_zero (by omega) (by omega)
    have E : Mth.low ((p - q) * Mth.S p q G.toNat P.toNat) ((p - q) * Mth.S p q G.toNat G.toNat) = Mth.low (Mth.S p q G.toNat P.toNat) (Mth.S p q G.toNat G.toNat) :=
      Mth.low_cross n0 (by omega) (by ac_rfl)
    refine Mth.Evn.congr (g := fun k => (impl_lowest.f k ((p - q) * Mth.S p q G.toNat P.toNat) ((p - q) * Mth.S p q G.toNat G.toNat)).bind fun b => some (b.1, b.2)) (fun k => ?_) ?_
    · rw [w1, w2, ← m1, ← m2, wrap_id (x := (p - q) * Mth.S p q G.toNat P.toNat) (by omega) (by omega)]
    · rw [← E]
      exact (lowest_ev _ _ (by omega) (by omega) (by omega) (by omega) n0).bind (Mth.Evn.now _)
theorem goalv_bd (p q P G : Int) (hp : 1 ≤ p) (hp9 : p ≤ 9) (hq : 1 ≤ q) (hq9 : q ≤ 9) (hP : 0 ≤ P) (hPG : P ≤ G) (hG1 : 1 ≤ G) (hG : G ≤ 16) :
    0 ≤ (goalv p q P G).1 ∧ (goalv p q P G).1 ≤ (goalv p q P G).2 ∧ 0 < (goalv p q P G).2 ∧ (goalv p q P G).2 ≤ 3294258113514384 := by
  have key : ∀ n d : Int, 0 ≤ n → n ≤ d → 0 < d → d ≤ 3294258113514384 → 0 ≤ (Mth.low n d).1 ∧ (Mth.low n d).1 ≤ (Mth.low n d).2 ∧ 0 < (Mth.low n d).2 ∧ (Mth.low n d).2 ≤ 3294258113514384 := by
    intro n d h0 h1 h2 h3
    have a := Mth.low_nonneg h2 h0
    have b := Mth.low_pos (n := n) (d := d) (by omega)
    have c := Mth.low_den_le (n := n) h2
    have v := Mth.low_val (n := n) (d := d)
    refine ⟨a, ?_, b, by omega⟩
    have : (Mth.low n d).1 * d ≤ (Mth.low n d).2 * d := by
      rw [v, Int.mul_comm (Mth.low n d).2]; exact Int.mul_le_mul_of_nonneg_right h1 (by omega)
    exact Int.le_of_mul_le_mul_right this h2
  unfold goalv
  split
  · exact key P G hP hPG (by omega) (by omega)
  · have b1 := S_in p q hp hp9 hq hq9 G.toNat P.toNat (by omega) (by omega)
    have b2 := S_in p q hp hp9 hq hq9 G.toNat G.toNat (by omega) (by omega)
    have b3 := Mth.S_pos p q hp (by omega) G.toNat G.toNat (by omega)
    exact key _ _ b1.1 (Mth.S_mono p q (by omega) (by omega) _ _ _ (by omega)) (by omega) b2.2
theorem atLeast_eq (a b num den : Int) (ha : 0 ≤ a) (hab : a ≤ b) (hb : 0 < b) (hb' : b ≤ 3294258113514384) (hn : 0 ≤ num) (hn' : num ≤ 1000) (hd : 1 ≤ den) (hd' : den ≤ 1000) :
    spec_skAtLeast.f a b num den = some (decide (a * den ≥ num * b)) := by
  unfold spec_skAtLeast.f
  by_cases h : num > den
  · rw [if_pos h]
    have h1 := Int.mul_le_mul_of_nonneg_right hab (show 0 ≤ den by omega)
    have h2 := Int.mul_lt_mul_of_pos_left h hb
    rw [Int.mul_comm b num] at h2
    rw [decide_eq_false (by omega)]
  · rw [if_neg h, if_neg (by omega), Int.tdiv_eq_ediv_of_nonneg (by omega), Int.tmod_eq_emod_of_nonneg (by omega)]
    have e := Int.mul_ediv_add_emod b den
    have r0 := Int.emod_nonneg b (show den ≠ 0 by omega)
    have r1 := Int.emod_lt_of_pos b (show 0 < den by omega)
    have q0 : 0 ≤ b / den := Int.ediv_nonneg (by omega) (by omega)
    have q1 : b / den ≤ b := Int.ediv_le_self _ (by omega)
    generalize b / den = q at *
    generalize b % den = r at *
    have m1 : 0 ≤ num * q ∧ num * q ≤ 1000 * 3294258113514384 := ⟨Int.mul_nonneg hn q0, Int.mul_le_mul hn' (by omega) q0 (by omega)⟩
    have m2 : 0 ≤ num * r ∧ num * r ≤ 1000 * 1000 := ⟨Int.mul_nonneg hn r0, Int.mul_le_mul hn' (by omega) r0 (by omega)⟩
    have E : num * b = num * q * den + num * r := by rw [← e, Int.mul_add]; ac_rfl
    rw [E, wrap_id (x := q) (by omega) (by omega)]
    generalize num * r = y at *
    generalize num * q = z at *
    have y1 : (y + den - 1).tdiv den = (y + den - 1) / den := Int.tdiv_eq_ediv_of_nonneg (by omega)
    have y2 : 0 ≤ (y + den - 1) / den := Int.ediv_nonneg (by omega) (by omega)
    have y3 : (y + den - 1) / den ≤ y + den - 1 := Int.ediv_le_self _ (by omega)
    rw [wrap_id (x := z) (by omega) (by omega), wrap_id (x := y) (by omega) (by omega), wrap_id (x := y + den) (by omega) (by omega), wrap_id (x := y + den - 1) (by omega) (by omega), y1, wrap_id (x := (y + den - 1) / den) (by omega) (by omega), wrap_id (x := z + (y + den - 1) / den) (by omega) (by omega)]
    refine some_dec ?_
    have k := Int.ediv_lt_iff_lt_mul (a := y + den - 1) (b := a - z + 1) (c := den) (by omega)
    rw [Int.add_mul, Int.sub_mul, Int.one_mul] at k
    constructor
    · intro h3
      have := k.1 (by omega)
      omega
    · intro h3
      have := k.2 (by omega)
      omega
def need (f : Int → Bool) : Nat → Int → Int × Bool
  | 0, _ => (0, false)
  | d + 1, i => if f i = true then (i, true) else need f d (i + 1)
def enough (p q G num den i : Int) : Bool := decide ((goalv p q i G).1 * den ≥ num * (goalv p q i G).2)
theorem spec_need {h o : Int} (ho : 2 ≤ o) (ho' : o ≤ 10) (hh : 1 ≤ h) (hh' : h ≤ o - 1) (G num den : Int) (hG1 : 1 ≤ G) (hG : G ≤ 16) (hn : 0 ≤ num) (hn' : num ≤ 1000) (hd : 1 ≤ den) (hd' : den ≤ 1000) : ∀ (d : Nat) (i : Int), 0 ≤ i → i + d = G + 1 →
    Mth.Evn (fun k => spec_NeededPurse.l0 k G num den i h o) (need (enough (odds h o).1 (odds h o).2 G num den) d i)
  | 0, i, h0, hi => by
    refine (Mth.Evn.now _).step fun k => ?_
    simp only [spec_NeededPurse.l0]
    rw [if_neg (by omega)]; rfl
  | d + 1, i, h0, hi => by
    have ih := spec_need ho ho' hh hh' G num den hG1 hG hn hn' hd hd' d (i + 1) (by omega) (by omega)
    obtain ⟨⟨p1, p2⟩, q1, q2⟩ := odds_bd ho ho' hh hh'
    obtain ⟨g1, g2, g3, g4⟩ := goalv_bd _ _ i G p1 p2 q1 q2 h0 (by omega) hG1 hG
    have gv := skGoal_ev ho ho' hh hh' i G h0 (by omega) hG1 hG
    refine Mth.Evn.step (fun k => by simp only [spec_NeededPurse.l0]; rw [if_pos (show i ≤ G by omega)]) (gv.bind ?_)
    have ea := atLeast_eq _ _ num den g1 g2 g3 g4 hn hn' hd hd'
    refine Mth.Evn.congr (fun k => by rw [ea]) ?_
    show Mth.Evn (fun k => (some (enough (odds h o).1 (odds h o).2 G num den i)).bind fun t127 => if t127 = true then some (i, true) else spec_NeededPurse.l0 k G num den (wrap64 (i + 1)) h o) _
    rw [need]
    by_cases e : enough (odds h o).1 (odds h o).2 G num den i = true
    · rw [if_pos e, e]; exact Mth.Evn.congr (fun k => rfl) (Mth.Evn.now _)
    · rw [if_neg e]
      refine Mth.Evn.congr (fun k => ?_) ih
      simp only [Option.bind_some]
      rw [if_neg e, wrap_id (x := i + 1) (by omega) (by omega)]
theorem impl_need {h o : Int} (ho : 2 ≤ o) (ho' : o ≤ 10) (hh : 1 ≤ h) (hh' : h ≤ o - 1) (G num den : Int) (hG1 : 1 ≤ G) (hG : G ≤ 16) (hn : 0 ≤ num) (hn' : num ≤ 1000) (hd : 1 ≤ den) (hd' : den ≤ 1000) : ∀ (d : Nat) (i : Int), 0 ≤ i → i + d = G + 1 →
    Mth.Evn (fun k => impl_NeededPurse.l0 k G num den (G + 1) i h o) (need (enough (odds h o).1 (odds h o).2 G num den) d i)
  | 0, i, h0, hi => by
    refine (Mth.Evn.now _).step fun k => ?_
    simp only [impl_NeededPurse.l0]
    rw [if_neg (by omega)]; rfl
  | d + 1, i, h0, hi => by
    have ih := impl_need ho ho' hh hh' G num den hG1 hG hn hn' hd hd' d (i + 1) (by omega) (by omega)
    obtain ⟨⟨p1, p2⟩, q1, q2⟩ := odds_bd ho ho' hh hh'
    obtain ⟨g1, g2, g3, g4⟩ := goalv_bd _ _ i G p1 p2 q1 q2 h0 (by omega) hG1 hG
    have gv := goal_ev ho ho' hh hh' i G h0 (by omega) hG1 hG
    refine Mth.Evn.step (fun k => by simp only [impl_NeededPurse.l0]; rw [if_pos (show i < G + 1 by omega)]) (gv.bind ?_)
    have m1 : 0 ≤ (goalv (odds h o).1 (odds h o).2 i G).1 * den ∧ (goalv (odds h o).1 (odds h o).2 i G).1 * den ≤ 3294258113514384 * 1000 := ⟨Int.mul_nonneg g1 (by omega), Int.mul_le_mul (by omega) hd' (by omega) (by omega)⟩
    have m2 : 0 ≤ num * (goalv (odds h o).1 (odds h o).2 i G).2 ∧ num * (goalv (odds h o).1 (odds h o).2 i G).2 ≤ 1000 * 3294258113514384 := ⟨Int.mul_nonneg hn (by omega), Int.mul_le_mul hn' g4 (by omega) (by omega)⟩
    refine Mth.Evn.congr (fun k => by rw [wrap_id (x := (goalv (odds h o).1 (odds h o).2 i G).1 * den) (by omega) (by omega), wrap_id (x := num * (goalv (odds h o).1 (odds h o).2 i G).2) (by omega) (by omega)]) ?_
    rw [need]
    by_cases e : (goalv (odds h o).1 (odds h o).2 i G).1 * den ≥ num * (goalv (odds h o).1 (odds h o).2 i G).2
    · rw [if_pos (show enough _ _ _ _ _ _ = true from decide_eq_true e)]
      exact Mth.Evn.congr (fun k => by rw [if_pos e]) (Mth.Evn.now _)
    · rw [if_neg (show ¬ enough _ _ _ _ _ _ = true by unfold enough; rw [decide_eq_false e]; simp)]
      refine Mth.Evn.congr (fun k => ?_) ih
      rw [if_neg e, wrap_id (x := i + 1) (by omega) (by omega)]
theorem holds (a0_0 : Int) (a0_1 : Int) (a1 : Int) (a2 : Int) (a3 : Int) (w0_0 : (Lit.int .i64 a0_0).wf = true) (w0_1 : (Lit.int .i64 a0_1).wf = true) (w1 : (Lit.int .i64 a1).wf = true) (w2 : (Lit.int .i64 a2).wf = true) (w3 : (Lit.int .i64 a3).wf = true) : ∃ k, laws_FnExactNeededPurse.f k a0_0 a0_1 a1 a2 a3 = some true := by
  refine Mth.Evn.get (f := fun k => laws_FnExactNeededPurse.f k a0_0 a0_1 a1 a2 a3) ?_
  by_cases h : ((2 ≤ a0_1 ∧ a0_1 ≤ 10) ∧ (1 ≤ a0_0 ∧ a0_0 ≤ a0_1 - 1)) ∧ (1 ≤ a1 ∧ a1 ≤ 16) ∧ (0 ≤ a2 ∧ a2 ≤ 1000) ∧ (1 ≤ a3 ∧ a3 ≤ 1000)
  · obtain ⟨c, g, n, d⟩ := h
    obtain ⟨K, hK⟩ := spec_need c.1.1 c.1.2 c.2.1 c.2.2 a1 a2 a3 g.1 g.2 n.1 n.2 d.1 d.2 (a1 + 1).toNat 0 (by omega) (by omega)
    obtain ⟨K', hK'⟩ := impl_need c.1.1 c.1.2 c.2.1 c.2.2 a1 a2 a3 g.1 g.2 n.1 n.2 d.1 d.2 (a1 + 1).toNat 0 (by omega) (by omega)
    have ew : wrap64 (a1 + 1) = a1 + 1 := wrap_id (by omega) (by omega)
    refine ⟨max K K' + 1, fun k hk => ?_⟩
    obtain ⟨m, rfl⟩ : ∃ m, k = m + 1 := ⟨k - 1, by omega⟩
    have e1 := hK m (by omega)
    have e2 := hK' m (by omega)
    simp only at e1 e2
    simp only [laws_FnExactNeededPurse.f, laws_toCoin.f, spec_NeededPurse.f, spec_NeededPurse.j0, impl_NeededPurse.f, impl_NeededPurse.j0, ptCoin_eq, IsCoin_eq, l1In_eq, within_eq, Option.bind_some, decide_eq_true c, decide_eq_true g, decide_eq_true n, decide_eq_true d, if_true, Bool.not_true, Bool.false_eq_true, if_false, ew, e1, e2]
    simp
  · refine ⟨1, fun k hk => ?_⟩
    obtain ⟨m, rfl⟩ : ∃ m, k = m + 1 := ⟨k - 1, by omega⟩
    simp only [laws_FnExactNeededPurse.f, laws_toCoin.f, spec_NeededPurse.f, spec_NeededPurse.j0, impl_NeededPurse.f, impl_NeededPurse.j0, ptCoin_eq, IsCoin_eq, l1In_eq, within_eq, Option.bind_some]
    by_cases c : (2 ≤ a0_1 ∧ a0_1 ≤ 10) ∧ (1 ≤ a0_0 ∧ a0_0 ≤ a0_1 - 1)
    · by_cases g : 1 ≤ a1 ∧ a1 ≤ 16
      · by_cases n : 0 ≤ a2 ∧ a2 ≤ 1000
        · have d : ¬ (1 ≤ a3 ∧ a3 ≤ 1000) := fun d => h ⟨c, g, n, d⟩
          simp only [decide_eq_true c, decide_eq_true g, decide_eq_true n, decide_eq_false d]; simp
        · simp only [decide_eq_true c, decide_eq_true g, decide_eq_false n]; simp
      · simp only [decide_eq_true c, decide_eq_false g]; simp
    · simp only [decide_eq_false c]; simp
end Go.Proofs.Ytkcpmdkjhpbmfaa.PureFnExactNeededPurse
