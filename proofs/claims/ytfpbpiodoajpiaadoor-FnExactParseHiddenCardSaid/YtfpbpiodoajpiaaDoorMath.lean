/- Fractions in lowest terms, in plain arithmetic. No condition. -/
set_option linter.unusedVariables false
namespace Go.Proofs.YtfpbpiodoajpiaaDoor.Mth

/-- The divisor by which a fraction is made lowest: its greatest common divisor, with the sign of the denominator. -/
def dv (n d : Int) : Int := if d < 0 then -(Int.gcd n d : Int) else (Int.gcd n d : Int)
/-- A fraction in lowest terms, the denominator above 0. -/
def low (n d : Int) : Int × Int := (n / dv n d, d / dv n d)

theorem dv_ne {n d : Int} (h : d ≠ 0) : dv n d ≠ 0 := by
  have := Int.gcd_pos_of_ne_zero_right n h
  unfold dv; split <;> omega
theorem dv_dvd_left (n d : Int) : dv n d ∣ n := by
  unfold dv; split
  · exact Int.neg_dvd.2 (Int.gcd_dvd_left n d)
  · exact Int.gcd_dvd_left n d
theorem dv_dvd_right (n d : Int) : dv n d ∣ d := by
  unfold dv; split
  · exact Int.neg_dvd.2 (Int.gcd_dvd_right n d)
  · exact Int.gcd_dvd_right n d
theorem low_num (n d : Int) : dv n d * (low n d).1 = n := Int.mul_ediv_cancel' (dv_dvd_left n d)
theorem low_den (n d : Int) : dv n d * (low n d).2 = d := Int.mul_ediv_cancel' (dv_dvd_right n d)

/-- The divisor of a product with a common factor. -/
theorem dv_mul (n d c : Int) (hc : c ≠ 0) (hd : d ≠ 0) : dv (n * c) (d * c) = dv n d * c := by
  have hg : ((Int.gcd (n * c) (d * c) : Nat) : Int) = (Int.gcd n d : Int) * (c.natAbs : Int) := by
    rw [Int.gcd_mul_right, Int.natCast_mul]
  unfold dv; rw [hg]
  rcases Int.lt_or_gt_of_ne hc with h | h
  · have ea : (c.natAbs : Int) = -c := by omega
    rw [ea]
    by_cases hd0 : d < 0
    · have hp : 0 < d * c := Int.mul_pos_of_neg_of_neg hd0 h
      rw [if_neg (by omega), if_pos hd0, Int.mul_neg, Int.neg_mul]
    · have hp : d * c < 0 := Int.mul_neg_of_pos_of_neg (by omega) h
      rw [if_pos hp, if_neg hd0, Int.mul_neg, Int.neg_neg]
  · have ea : (c.natAbs : Int) = c := by omega
    rw [ea]
    by_cases hd0 : d < 0
    · have hp : d * c < 0 := Int.mul_neg_of_neg_of_pos hd0 h
      rw [if_pos hp, if_pos hd0, Int.neg_mul]
    · have hp : 0 < d * c := Int.mul_pos (by omega) h
      rw [if_neg (by omega), if_neg hd0]

theorem low_aux {g g' a b a' b' n d n' d' : Int} (e1 : g * a = n) (e2 : g * b = d) (e3 : g' * a' = n') (e4 : g' * b' = d') (hg : g * d' = g' * d) (g0 : g ≠ 0) (g0' : g' ≠ 0) (hd : d ≠ 0) (h : n * d' = n' * d) : a = a' ∧ b = b' := by
  subst e1 e2 e3 e4
  have hb0 : b ≠ 0 := fun h0 => hd (by rw [h0, Int.mul_zero])
  have q : b = b' := by
    have : (g * g') * b' = (g * g') * b := by
      have e : g * g' * b = g' * (g * b) := by ac_rfl
      rw [Int.mul_assoc, hg, e]
    exact (Int.eq_of_mul_eq_mul_left (Int.mul_ne_zero g0 g0') this).symm
  subst q
  refine ⟨?_, rfl⟩
  have : (g * g' * b) * a = (g * g' * b) * a' := by
    have e : g * g' * b * a = g * a * (g' * b) := by ac_rfl
    have e' : g * g' * b * a' = g' * a' * (g * b) := by ac_rfl
    rw [e, h, e']
  exact Int.eq_of_mul_eq_mul_left (Int.mul_ne_zero (Int.mul_ne_zero g0 g0') hb0) this

/-- Two fractions of one value have the same lowest terms. -/
theorem low_cross {n d n' d' : Int} (hd : d ≠ 0) (hd' : d' ≠ 0) (h : n * d' = n' * d) : low n d = low n' d' := by
  have hg : dv n d * d' = dv n' d' * d := by
    rw [← dv_mul n d d' hd' hd, ← dv_mul n' d' d hd hd', h, Int.mul_comm d d']
  obtain ⟨p, q⟩ := low_aux (low_num n d) (low_den n d) (low_num n' d') (low_den n' d') hg (dv_ne hd) (dv_ne hd') hd h
  exact Prod.ext p q

theorem low_pos {n d : Int} (hd : d ≠ 0) : 0 < (low n d).2 := by
  have e := low_den n d
  have g := Int.gcd_pos_of_ne_zero_right n hd
  by_cases h : d < 0
  · have hv : dv n d < 0 := by unfold dv; rw [if_pos h]; omega
    rcases Int.lt_trichotomy (low n d).2 0 with h1 | h1 | h1
    · have := Int.mul_pos_of_neg_of_neg hv h1; omega
    · rw [h1, Int.mul_zero] at e; omega
    · exact h1
  · have hv : 0 < dv n d := by unfold dv; rw [if_neg h]; omega
    rcases Int.lt_trichotomy (low n d).2 0 with h1 | h1 | h1
    · have := Int.mul_neg_of_pos_of_neg hv h1; omega
    · rw [h1, Int.mul_zero] at e; omega
    · exact h1

/-- The lowest terms have the fraction's value. -/
theorem low_val {n d : Int} : (low n d).1 * d = n * (low n d).2 := by
  have a := low_num n d
  have b := low_den n d
  generalize (low n d).1 = x at *
  generalize (low n d).2 = y at *
  generalize dv n d = g at *
  subst a b
  ac_rfl

/-- Lowest terms come out of whatever two fractions alike. -/
theorem low_low {n d : Int} (hd : d ≠ 0) : low (low n d).1 (low n d).2 = low n d :=
  low_cross (by have := low_pos (n := n) hd; omega) hd low_val

theorem low_nonneg {n d : Int} (hd : 0 < d) (hn : 0 ≤ n) : 0 ≤ (low n d).1 := by
  have e : (low n d).1 * d = n * (low n d).2 := low_val
  have p := low_pos (n := n) (d := d) (by omega)
  by_cases h : (low n d).1 < 0
  · have h1 := Int.mul_neg_of_neg_of_pos h hd
    have h2 := Int.mul_nonneg hn (Int.le_of_lt p)
    omega
  · omega
theorem low_den_le {n d : Int} (hd : 0 < d) : (low n d).2 ≤ d := by
  have e := low_den n d
  have p := low_pos (n := n) (d := d) (by omega)
  have g := Int.gcd_pos_of_ne_zero_right n (b := d) (by omega)
  have hv : 1 ≤ dv n d := by unfold dv; rw [if_neg (by omega)]; omega
  have := Int.mul_le_mul_of_nonneg_right hv (Int.le_of_lt p)
  omega
theorem low_num_le {n d : Int} (hd : 0 < d) (hn : 0 ≤ n) : (low n d).1 ≤ n := by
  have e := low_num n d
  have p := low_nonneg hd hn
  have g := Int.gcd_pos_of_ne_zero_right n (b := d) (by omega)
  have hv : 1 ≤ dv n d := by unfold dv; rw [if_neg (by omega)]; omega
  have := Int.mul_le_mul_of_nonneg_right hv p
  omega

/-- Euclid, as the reference's loop goes. -/
theorem gcd_step (a b : Int) : Int.gcd b (a.tmod b) = Int.gcd a b := by
  show Nat.gcd b.natAbs (a.tmod b).natAbs = Nat.gcd a.natAbs b.natAbs
  rw [Int.natAbs_tmod, Nat.gcd_comm a.natAbs, Nat.gcd_rec b.natAbs a.natAbs, Nat.gcd_comm]
end Go.Proofs.YtfpbpiodoajpiaaDoor.Mth
namespace Go.Proofs.YtfpbpiodoajpiaaDoor.Mth
theorem low_gcd {n d : Int} (hd : d ≠ 0) : Int.gcd (low n d).1 (low n d).2 = 1 := by
  have a := low_num n d
  have b := low_den n d
  have g := Int.gcd_pos_of_ne_zero_right n hd
  have e : Int.gcd n d = (dv n d).natAbs * Int.gcd (low n d).1 (low n d).2 := by
    rw [← Int.gcd_mul_left, a, b]
  have ev : (dv n d).natAbs = Int.gcd n d := by unfold dv; split <;> omega
  rw [ev] at e
  have : Int.gcd n d * 1 = Int.gcd n d * Int.gcd (low n d).1 (low n d).2 := by rw [← e, Nat.mul_one]
  exact (Nat.eq_of_mul_eq_mul_left g this).symm

theorem low_of_coprime {x y : Int} (hy : 0 < y) (h : Int.gcd x y = 1) : low x y = (x, y) := by
  unfold low dv
  rw [if_neg (by omega), h]
  simp

theorem low_unique {n d x y : Int} (hd : d ≠ 0) (hy : 0 < y) (h : Int.gcd x y = 1) (e : x * d = n * y) : low n d = (x, y) := by
  rw [← low_of_coprime hy h]
  exact (low_cross (by omega) hd e).symm

theorem coprime_mul {a b d e : Int} (h1 : Int.gcd a b = 1) (h2 : Int.gcd a e = 1) (h3 : Int.gcd d b = 1) (h4 : Int.gcd d e = 1) : Int.gcd (a * d) (b * e) = 1 := by
  have k1 : Nat.Coprime a.natAbs b.natAbs := h1
  have k2 : Nat.Coprime a.natAbs e.natAbs := h2
  have k3 : Nat.Coprime d.natAbs b.natAbs := h3
  have k4 : Nat.Coprime d.natAbs e.natAbs := h4
  show Nat.gcd (a * d).natAbs (b * e).natAbs = 1
  rw [Int.natAbs_mul, Int.natAbs_mul]
  exact Nat.Coprime.mul_left (Nat.Coprime.mul_right k1 k2) (Nat.Coprime.mul_right k3 k4)

/-- The parts of tails to the power of each number below P. -/
def S (p q : Int) (G : Nat) : Nat → Int
  | 0 => 0
  | P + 1 => S p q G P + q ^ P * p ^ (G - 1 - P)

theorem S_mul (p q : Int) (G : Nat) : ∀ P, P ≤ G → (p - q) * S p q G P = p ^ (G - P) * (p ^ P - q ^ P)
  | 0, _ => by simp [S]
  | P + 1, h => by
    have ih := S_mul p q G P (by omega)
    obtain ⟨m, hm⟩ : ∃ m, G - P = m + 1 := ⟨G - P - 1, by omega⟩
    have e1 : G - 1 - P = m := by omega
    have e2 : G - (P + 1) = m := by omega
    rw [S, Int.mul_add, ih, hm, e1, e2, Int.pow_succ, Int.pow_succ, Int.pow_succ]
    simp only [Int.mul_sub, Int.sub_mul]
    have a1 : p ^ m * p * p ^ P = p ^ m * (p ^ P * p) := by ac_rfl
    have a2 : p * (q ^ P * p ^ m) = p ^ m * p * q ^ P := by ac_rfl
    have a3 : q * (q ^ P * p ^ m) = p ^ m * (q ^ P * q) := by ac_rfl
    rw [a1, a2, a3]; omega
theorem pow_bd (p M : Int) (h : 0 ≤ p) (hM : p ≤ M) : ∀ n : Nat, 0 ≤ p ^ n ∧ p ^ n ≤ M ^ n
  | 0 => by simp
  | n + 1 => by
    have ih := pow_bd p M h hM n
    rw [Int.pow_succ, Int.pow_succ]
    exact ⟨Int.mul_nonneg ih.1 h, Int.mul_le_mul ih.2 hM h (Int.le_trans ih.1 ih.2)⟩
theorem pow_le_M (M : Int) (h : 1 ≤ M) (n m : Nat) (hnm : n ≤ m) : M ^ n ≤ M ^ m := by
  obtain ⟨d, rfl⟩ := Nat.exists_eq_add_of_le hnm
  induction d with
  | zero => simp
  | succ d ih =>
    have ih := ih (by omega)
    have hp := (pow_bd M M (by omega) (by omega) (n + d)).1
    rw [← Nat.add_assoc, Int.pow_succ]
    have := Int.mul_le_mul_of_nonneg_left h hp
    omega
theorem pow_pos' (p : Int) (h : 1 ≤ p) : ∀ n : Nat, 1 ≤ p ^ n
  | 0 => by simp
  | n + 1 => by
    have ih := pow_pos' p h n
    rw [Int.pow_succ]
    have := Int.mul_le_mul ih h (by omega) (by omega)
    omega
theorem term_bd (p q M : Int) (hp : 0 ≤ p) (hpM : p ≤ M) (hq : 0 ≤ q) (hqM : q ≤ M) (a b : Nat) : 0 ≤ q ^ a * p ^ b ∧ q ^ a * p ^ b ≤ M ^ (a + b) := by
  have h1 := pow_bd q M hq hqM a
  have h2 := pow_bd p M hp hpM b
  rw [Int.pow_add]
  exact ⟨Int.mul_nonneg h1.1 h2.1, Int.mul_le_mul h1.2 h2.2 h2.1 (Int.le_trans h1.1 h1.2)⟩
theorem S_bd (p q M : Int) (hp : 0 ≤ p) (hpM : p ≤ M) (hq : 0 ≤ q) (hqM : q ≤ M) (G : Nat) : ∀ P, P ≤ G → 0 ≤ S p q G P ∧ S p q G P ≤ P * M ^ (G - 1)
  | 0, _ => by simp [S]
  | P + 1, h => by
    have ih := S_bd p q M hp hpM hq hqM G P (by omega)
    have t := term_bd p q M hp hpM hq hqM P (G - 1 - P)
    rw [show P + (G - 1 - P) = G - 1 by omega] at t
    rw [S, Int.natCast_succ, Int.add_mul, Int.one_mul]
    omega
theorem S_mono (p q : Int) (hp : 0 ≤ p) (hq : 0 ≤ q) (G : Nat) (P Q : Nat) (h : P ≤ Q) : S p q G P ≤ S p q G Q := by
  obtain ⟨d, rfl⟩ := Nat.exists_eq_add_of_le h
  induction d with
  | zero => simp
  | succ d ih =>
    have ih := ih (by omega)
    rw [← Nat.add_assoc, S]
    have := Int.mul_nonneg (pow_bd q q hq (by omega) (P + d)).1 (pow_bd p p hp (by omega) (G - 1 - (P + d))).1
    omega
theorem S_pos (p q : Int) (hp : 1 ≤ p) (hq : 0 ≤ q) (G : Nat) (P : Nat) (h : 1 ≤ P) : 1 ≤ S p q G P := by
  have h1 := S_mono p q (by omega) hq G 1 P h
  have h2 : S p q G 1 = p ^ (G - 1) := by simp [S]
  have h3 := pow_pos' p hp (G - 1)
  omega

/-- The terms fall where q is at most p. -/
theorem term_step (p q : Int) (hp : 0 ≤ p) (hq : 0 ≤ q) (G k : Nat) (hk : k + 1 < G) :
    q ^ (k + 1) * p ^ (G - 1 - (k + 1)) * p = q ^ k * p ^ (G - 1 - k) * q := by
  obtain ⟨m, hm⟩ : ∃ m, G - 1 - k = m + 1 := ⟨G - 1 - k - 1, by omega⟩
  rw [show G - 1 - (k + 1) = m by omega, hm, Int.pow_succ, Int.pow_succ]; ac_rfl
theorem term_le (p q : Int) (hp : 1 ≤ p) (hq : 0 ≤ q) (hqp : q ≤ p) (G k : Nat) (hk : k + 1 < G) : q ^ (k + 1) * p ^ (G - 1 - (k + 1)) ≤ q ^ k * p ^ (G - 1 - k) := by
  have e := term_step p q (by omega) hq G k hk
  have n1 : 0 ≤ q ^ k * p ^ (G - 1 - k) := Int.mul_nonneg (pow_bd q q hq (by omega) k).1 (pow_bd p p (by omega) (by omega) _).1
  generalize q ^ (k + 1) * p ^ (G - 1 - (k + 1)) = x at *
  generalize q ^ k * p ^ (G - 1 - k) = y at *
  have h2 := Int.mul_le_mul_of_nonneg_left hqp n1
  exact Int.le_of_mul_le_mul_right (a := p) (by omega) (by omega)
theorem term_ge (p q : Int) (hp : 1 ≤ p) (hqp : p ≤ q) (G k : Nat) (hk : k + 1 < G) : q ^ k * p ^ (G - 1 - k) ≤ q ^ (k + 1) * p ^ (G - 1 - (k + 1)) := by
  have e := term_step p q (by omega) (by omega) G k hk
  have n1 : 0 ≤ q ^ k * p ^ (G - 1 - k) := Int.mul_nonneg (pow_bd q q (by omega) (by omega) k).1 (pow_bd p p (by omega) (by omega) _).1
  generalize q ^ (k + 1) * p ^ (G - 1 - (k + 1)) = x at *
  generalize q ^ k * p ^ (G - 1 - k) = y at *
  have h2 := Int.mul_le_mul_of_nonneg_left hqp n1
  exact Int.le_of_mul_le_mul_right (a := p) (by omega) (by omega)
theorem S_ge (p q : Int) (hp : 1 ≤ p) (hq : 0 ≤ q) (hqp : q ≤ p) (G : Nat) : ∀ P, P < G → P * (q ^ P * p ^ (G - 1 - P)) ≤ S p q G P
  | 0, _ => by simp [S]
  | P + 1, h => by
    have ih := S_ge p q hp hq hqp G P (by omega)
    have t := term_le p q hp hq hqp G P h
    have := Int.mul_le_mul_of_nonneg_left t (show (0 : Int) ≤ ((P + 1 : Nat) : Int) by omega)
    rw [S]
    simp only [Int.natCast_succ, Int.add_mul, Int.one_mul] at *
    omega
theorem S_le (p q : Int) (hp : 1 ≤ p) (hqp : p ≤ q) (G : Nat) : ∀ P, P < G → S p q G P ≤ P * (q ^ P * p ^ (G - 1 - P))
  | 0, _ => by simp [S]
  | P + 1, h => by
    have ih := S_le p q hp hqp G P (by omega)
    have t := term_ge p q hp hqp G P h
    have := Int.mul_le_mul_of_nonneg_left t (show (0 : Int) ≤ ((P + 1 : Nat) : Int) by omega)
    rw [S]
    simp only [Int.natCast_succ, Int.add_mul, Int.one_mul] at *
    omega
/-- The mean of the first parts falls (q at most p). -/
theorem S_avg (p q : Int) (hp : 1 ≤ p) (hq : 0 ≤ q) (hqp : q ≤ p) (G P : Nat) (hP : 1 ≤ P) : ∀ d, P + d ≤ G → (P : Int) * S p q G (P + d) ≤ ((P + d : Nat) : Int) * S p q G P
  | 0, _ => by simp
  | d + 1, h => by
    have ih := S_avg p q hp hq hqp G P hP d (by omega)
    have g := S_ge p q hp hq hqp G (P + d) (by omega)
    rw [← Nat.add_assoc, S]
    generalize S p q G (P + d) = x at *
    generalize S p q G P = y at *
    generalize q ^ (P + d) * p ^ (G - 1 - (P + d)) = t at *
    have n0 : (0 : Int) < ((P + d : Nat) : Int) := by omega
    have h1 : (P : Int) * (((P + d : Nat) : Int) * t) ≤ (P : Int) * x := Int.mul_le_mul_of_nonneg_left g (by omega)
    refine Int.le_of_mul_le_mul_left (a := ((P + d : Nat) : Int)) ?_ n0
    have h2 : ((P + d : Nat) : Int) * ((P : Int) * x) ≤ ((P + d : Nat) : Int) * (((P + d : Nat) : Int) * y) := Int.mul_le_mul_of_nonneg_left ih (by omega)
    rw [Int.mul_add]
    rw [show ((P + d + 1 : Nat) : Int) = ((P + d : Nat) : Int) + 1 by omega]
    rw [Int.mul_add, Int.add_mul, Int.one_mul, Int.mul_add]
    have e1 : ((P + d : Nat) : Int) * ((P : Int) * t) = (P : Int) * (((P + d : Nat) : Int) * t) := by ac_rfl
    omega
theorem S_avg' (p q : Int) (hp : 1 ≤ p) (hqp : p ≤ q) (G P : Nat) (hP : 1 ≤ P) : ∀ d, P + d ≤ G → ((P + d : Nat) : Int) * S p q G P ≤ (P : Int) * S p q G (P + d)
  | 0, _ => by simp
  | d + 1, h => by
    have ih := S_avg' p q hp hqp G P hP d (by omega)
    have g := S_le p q hp hqp G (P + d) (by omega)
    rw [← Nat.add_assoc, S]
    generalize S p q G (P + d) = x at *
    generalize S p q G P = y at *
    generalize q ^ (P + d) * p ^ (G - 1 - (P + d)) = t at *
    have n0 : (0 : Int) < ((P + d : Nat) : Int) := by omega
    have h1 : (P : Int) * x ≤ (P : Int) * (((P + d : Nat) : Int) * t) := Int.mul_le_mul_of_nonneg_left g (by omega)
    refine Int.le_of_mul_le_mul_left (a := ((P + d : Nat) : Int)) ?_ n0
    have h2 : ((P + d : Nat) : Int) * (((P + d : Nat) : Int) * y) ≤ ((P + d : Nat) : Int) * ((P : Int) * x) := Int.mul_le_mul_of_nonneg_left ih (by omega)
    rw [Int.mul_add]
    rw [show ((P + d + 1 : Nat) : Int) = ((P + d : Nat) : Int) + 1 by omega]
    rw [Int.mul_add, Int.add_mul, Int.one_mul, Int.mul_add]
    have e1 : ((P + d : Nat) : Int) * ((P : Int) * t) = (P : Int) * (((P + d : Nat) : Int) * t) := by ac_rfl
    omega
end Go.Proofs.YtfpbpiodoajpiaaDoor.Mth
namespace Go.Proofs.YtfpbpiodoajpiaaDoor.Mth
/-- With enough rounds the answer is r. -/
def Evn {α : Type} (f : Nat → Option α) (r : α) : Prop := ∃ K, ∀ k, K ≤ k → f k = some r
theorem Evn.ge {α : Type} {f : Nat → Option α} {r : α} (K : Nat) (h : ∀ k, K ≤ k → f k = some r) : Evn f r := ⟨K, h⟩
theorem Evn.step {α : Type} {f g : Nat → Option α} {r : α} (h : ∀ k, f (k + 1) = g k) (hg : Evn g r) : Evn f r := by
  obtain ⟨K, hK⟩ := hg
  refine ⟨K + 1, fun k hk => ?_⟩
  obtain ⟨m, rfl⟩ : ∃ m, k = m + 1 := ⟨k - 1, by omega⟩
  rw [h]; exact hK m (by omega)
theorem Evn.congr {α : Type} {f g : Nat → Option α} {r : α} (h : ∀ k, f k = g k) (hg : Evn g r) : Evn f r := by
  obtain ⟨K, hK⟩ := hg
  exact ⟨K, fun k hk => (h k).trans (hK k hk)⟩
theorem Evn.bind {α β : Type} {f : Nat → Option α} {g : Nat → α → Option β} {a : α} {r : β} (hf : Evn f a) (hg : Evn (fun k => g k a) r) : Evn (fun k => (f k).bind (g k)) r := by
  obtain ⟨K, hK⟩ := hf
  obtain ⟨K', hK'⟩ := hg
  refine ⟨max K K', fun k hk => ?_⟩
  show (f k).bind (g k) = some r
  rw [hK k (by omega)]; exact hK' k (by omega)
theorem Evn.now {α : Type} (r : α) : Evn (fun _ => some r) r := ⟨0, fun _ _ => rfl⟩
theorem Evn.get {α : Type} {f : Nat → Option α} {r : α} (h : Evn f r) : ∃ k, f k = some r := by
  obtain ⟨K, hK⟩ := h
  exact ⟨K, hK K (Nat.le_refl _)⟩
end Go.Proofs.YtfpbpiodoajpiaaDoor.Mth
