/- The pure statement of FnExactBoldWithin: chances of play by the greatest stake alone, told as fractions and as counts. No condition. -/
import Derived.Test.YtkcpmdkjhpbmfaaQFnExactBoldWithinx6
import Derived.Test.YtkcpmdkjhpbmfaaMath
import Derived.OpenShut
namespace Go.Proofs.Ytkcpmdkjhpbmfaa.PureFnExactBoldWithin
open Go Go.RowKit Go.Proofs.Ytkcpmdkjhpbmfaa.QFnExactBoldWithin Go.Proofs.YtkcpmdkjhpbmfaaW.PrintWords Go.Proofs.YtkcpmdkjhpbmfaaW.PrintLast Go.Proofs.YtkcpmdkjhpbmfaaW.PrintMore
set_option linter.unusedVariables false
set_option linter.unusedSimpArgs false

theorem wrap_id {x : Int} (h : -9223372036854775808 ≤ x) (h' : x ≤ 9223372036854775807) : wrap64 x = x := by unfold wrap64; omega
theorem ite_dec (p q : Prop) [Decidable p] [Decidable q] : (if decide p = true then some (decide q) else some false) = some (decide (p ∧ q)) := by
  by_cases h : p <;> simp [h]
theorem some_dec {p q : Prop} [Decidable p] [Decidable q] (h : p ↔ q) : some (decide p) = some (decide q) := by rw [decide_eq_decide.2 h]
theorem div_in {x g : Int} {M : Int} (hM : M ≤ 9223372036854775807) (h : -M ≤ x) (h' : x ≤ M) (hd : g ∣ x) (h0 : g ≠ 0) : wrap64 (Int.tdiv x g) = x / g := by
  rw [Int.tdiv_eq_ediv_of_dvd hd]
  obtain ⟨c, rfl⟩ := hd
  rw [Int.mul_ediv_cancel_left _ h0]
  have : c.natAbs ≤ (g * c).natAbs := by rw [Int.natAbs_mul]; exact Nat.le_mul_of_pos_left _ (by omega)
  exact wrap_id (by omega) (by omega)
theorem l1In_eq (a b c : Int) : spec_l1In.f a b c = some (decide (b ≤ a ∧ a ≤ c)) := by
  unfold spec_l1In.f
  by_cases h : a ≥ b
  · rw [if_pos h]; simp [show b ≤ a from h]
  · rw [if_neg h]; simp; omega
theorem within_eq (a b c : Int) : impl_within.f a b c = some (decide (b ≤ a ∧ a ≤ c)) := by
  unfold impl_within.f
  by_cases h : a ≥ b
  · rw [if_pos h]; simp [show b ≤ a from h]
  · rw [if_neg h]; simp; omega
theorem ptCoin_eq (h o : Int) : spec_ptCoin.f h o = some (decide ((2 ≤ o ∧ o ≤ 10) ∧ (1 ≤ h ∧ h ≤ o - 1))) := by
  unfold spec_ptCoin.f; simp only [l1In_eq, Option.bind_some]
  by_cases h1 : 2 ≤ o ∧ o ≤ 10
  · rw [wrap_id (x := o - 1) (by omega) (by omega)]; simp [h1]
  · simp [h1]
theorem IsCoin_eq (h o : Int) : impl_IsCoin.f h o = some (decide ((2 ≤ o ∧ o ≤ 10) ∧ (1 ≤ h ∧ h ≤ o - 1))) := by
  unfold impl_IsCoin.f; simp only [within_eq, Option.bind_some]
  by_cases h1 : 2 ≤ o ∧ o ≤ 10
  · rw [wrap_id (x := o - 1) (by omega) (by omega)]; simp [h1]
  · simp [h1]
theorem skGood_eq (p g : Int) : spec_skGood.f p g = some (decide ((1 ≤ g ∧ g ≤ 16) ∧ (0 ≤ p ∧ p ≤ g))) := by
  unfold spec_skGood.f; simp only [l1In_eq, Option.bind_some]
  by_cases h1 : 1 ≤ g ∧ g ≤ 16 <;> simp [h1]
theorem AreStakes_eq (p g : Int) : impl_AreStakes.f p g = some (decide ((1 ≤ g ∧ g ≤ 16) ∧ (0 ≤ p ∧ p ≤ g))) := by
  unfold impl_AreStakes.f; simp only [within_eq, Option.bind_some]
  by_cases h1 : 1 ≤ g ∧ g ≤ 16 <;> simp [h1]
theorem cnLow_l0 (x0 x1 : Int) (n : Nat) : ∀ (k : Nat) (a b : Int), 0 ≤ a → 0 ≤ b → b.toNat ≤ n → n < k → Int.gcd a b ≠ 0 →
    spec_cnLow.l0 k x0 x1 a b = some (wrap64 (Int.tdiv x0 (Int.gcd a b)), wrap64 (Int.tdiv x1 (Int.gcd a b))) := by
  induction n with
  | zero =>
    intro k a b ha hb hn hk hg
    obtain ⟨k, rfl⟩ : ∃ m, k = m + 1 := ⟨k - 1, by omega⟩
    obtain rfl : b = 0 := by omega
    have e : ((Int.gcd a 0 : Nat) : Int) = a := by rw [Int.gcd_zero_right]; omega
    have h0 : a ≠ 0 := by intro h; subst h; exact hg rfl
    simp only [spec_cnLow.l0]
    rw [if_neg (by omega), if_neg h0, e]
  | succ n ih =>
    intro k a b ha hb hn hk hg
    obtain ⟨k, rfl⟩ : ∃ m, k = m + 1 := ⟨k - 1, by omega⟩
    simp only [spec_cnLow.l0]
    by_cases h : b > 0
    · have h1 := Int.tmod_nonneg b ha
      have h2 := Int.tmod_lt_of_pos a h
      rw [if_pos h, if_neg (by omega), ih k b (a.tmod b) hb h1 (by omega) (by omega) (by rw [Mth.gcd_step]; exact hg), Mth.gcd_step]
    · obtain rfl : b = 0 := by omega
      have e : ((Int.gcd a 0 : Nat) : Int) = a := by rw [Int.gcd_zero_right]; omega
      have h0 : a ≠ 0 := by intro h; subst h; exact hg rfl
      rw [if_neg (by omega), if_neg h0, e]
theorem cnLow_eq (k : Nat) (a b : Int) (ha : 0 ≤ a) (ha' : a ≤ 9223372036854775807) (hb : 0 < b) (hb' : b ≤ 9223372036854775807) (hk : b.toNat < k) : spec_cnLow.f k a b = some (Mth.low a b) := by
  have hg := Int.gcd_pos_of_ne_zero_right a (b := b) (by omega)
  unfold spec_cnLow.f
  rw [cnLow_l0 a b b.toNat k a b ha (by omega) (Nat.le_refl _) hk (by omega)]
  rw [div_in (M := 9223372036854775807) (by omega) (by omega) ha' (Int.gcd_dvd_left a b) (by omega), div_in (M := 9223372036854775807) (by omega) (by omega) hb' (Int.gcd_dvd_right a b) (by omega)]
  unfold Mth.low Mth.dv
  rw [if_neg (by omega)]
theorem common_l0 (n : Nat) : ∀ (k : Nat) (a b : Int), 0 ≤ a → 0 ≤ b → b.toNat ≤ n → n < k → impl_common.l0 k a b = some (Int.gcd a b : Int) := by
  induction n with
  | zero =>
    intro k a b ha hb hn hk
    obtain ⟨k, rfl⟩ : ∃ m, k = m + 1 := ⟨k - 1, by omega⟩
    have hb0 : b = 0 := by omega
    simp only [impl_common.l0]
    rw [if_pos hb0, hb0, Int.gcd_zero_right]; congr 1; omega
  | succ n ih =>
    intro k a b ha hb hn hk
    obtain ⟨k, rfl⟩ : ∃ m, k = m + 1 := ⟨k - 1, by omega⟩
    simp only [impl_common.l0]
    by_cases h : b = 0
    · rw [if_pos h, h, Int.gcd_zero_right]; congr 1; omega
    · have h1 := Int.tmod_nonneg b ha
      have h2 := Int.tmod_lt_of_pos a (b := b) (by omega)
      rw [if_neg h, ih k b (a.tmod b) hb h1 (by omega) (by omega), Mth.gcd_step]
theorem mx_abs (a : Int) (h : -9223372036854775807 ≤ a) (h' : a ≤ 9223372036854775807) : mx a (wrap64 (-a)) = (a.natAbs : Int) := by
  rw [wrap_id (by omega) (by omega)]; unfold mx; split <;> omega
theorem common_eq (k : Nat) (a b : Int) (ha : -9223372036854775807 ≤ a) (ha' : a ≤ 9223372036854775807) (hb : -9223372036854775807 ≤ b) (hb' : b ≤ 9223372036854775807) (hk : b.natAbs < k) :
    impl_common.f k a b = some (Int.gcd a b : Int) := by
  unfold impl_common.f
  rw [mx_abs a ha ha', mx_abs b hb hb', common_l0 b.natAbs k _ _ (by omega) (by omega) (by omega) hk]
  simp [Int.gcd]
theorem lowest_eq (k : Nat) (a b : Int) (ha : -9223372036854775807 ≤ a) (ha' : a ≤ 9223372036854775807) (hb : -9223372036854775807 ≤ b) (hb' : b ≤ 9223372036854775807) (h0 : b ≠ 0) (hk : b.natAbs < k) :
    impl_lowest.f k a b = some (Mth.low a b) := by
  have hg := Int.gcd_pos_of_ne_zero_right a h0
  have hl : Int.gcd a b ≤ b.natAbs := Nat.le_of_dvd (by omega) (Int.gcd_dvd_natAbs_right a b)
  unfold impl_lowest.f
  rw [common_eq k a b ha ha' hb hb' hk]
  simp only [Option.bind_some]
  by_cases h : b < 0
  · have e : wrap64 (-((Int.gcd a b : Nat) : Int)) = -((Int.gcd a b : Nat) : Int) := wrap_id (by omega) (by omega)
    rw [if_pos h, e, if_neg (by omega), div_in (M := 9223372036854775807) (by omega) (by omega) ha' (Int.neg_dvd.2 (Int.gcd_dvd_left a b)) (by omega), div_in (M := 9223372036854775807) (by omega) (by omega) hb' (Int.neg_dvd.2 (Int.gcd_dvd_right a b)) (by omega)]
    unfold Mth.low Mth.dv
    rw [if_pos h]
  · rw [if_neg h, if_neg (by omega), div_in (M := 9223372036854775807) (by omega) (by omega) ha' (Int.gcd_dvd_left a b) (by omega), div_in (M := 9223372036854775807) (by omega) (by omega) hb' (Int.gcd_dvd_right a b) (by omega)]
    unfold Mth.low Mth.dv
    rw [if_neg h]

theorem low_bd {n d : Int} (h0 : 0 ≤ n) (hd : 0 < d) : (0 ≤ (Mth.low n d).1 ∧ (Mth.low n d).1 ≤ n) ∧ 0 < (Mth.low n d).2 ∧ (Mth.low n d).2 ≤ d :=
  ⟨⟨Mth.low_nonneg hd h0, Mth.low_num_le hd h0⟩, Mth.low_pos (by omega), Mth.low_den_le hd⟩
theorem cnLow_ev (a b : Int) (ha : 0 ≤ a) (ha' : a ≤ 9223372036854775807) (hb : 0 < b) (hb' : b ≤ 9223372036854775807) : Mth.Evn (fun k => spec_cnLow.f k a b) (Mth.low a b) :=
  ⟨b.toNat + 1, fun k hk => cnLow_eq k a b ha ha' hb hb' (by omega)⟩
theorem lowest_ev (a b : Int) (ha : -9223372036854775807 ≤ a) (ha' : a ≤ 9223372036854775807) (hb : -9223372036854775807 ≤ b) (hb' : b ≤ 9223372036854775807) (h0 : b ≠ 0) : Mth.Evn (fun k => impl_lowest.f k a b) (Mth.low a b) :=
  ⟨b.natAbs + 1, fun k hk => lowest_eq k a b ha ha' hb hb' h0 (by omega)⟩
theorem mul8 {a b : Int} (h0 : 0 ≤ a) (h : a ≤ 100000000) (k0 : 0 ≤ b) (k : b ≤ 100000000) : 0 ≤ a * b ∧ a * b ≤ 10000000000000000 := by
  have h1 := Int.mul_nonneg h0 k0
  have h2 := Int.mul_le_mul h k k0 (by omega)
  omega
theorem times_ev {N1 D1 N2 D2 : Int} (a0 : 0 ≤ N1) (a1 : N1 ≤ 100000000) (b0 : 0 < D1) (b1 : D1 ≤ 100000000) (c0 : 0 ≤ N2) (c1 : N2 ≤ 100000000) (d0 : 0 < D2) (d1 : D2 ≤ 100000000) :
    Mth.Evn (fun k => impl_frac_times.f k (Mth.low N1 D1).1 (Mth.low N1 D1).2 (Mth.low N2 D2).1 (Mth.low N2 D2).2) (Mth.low (N1 * N2) (D1 * D2)) := by
  obtain ⟨⟨x0, x1⟩, x2, x3⟩ := low_bd a0 b0
  obtain ⟨⟨y0, y1⟩, y2, y3⟩ := low_bd c0 d0
  have v1 := Mth.low_val (n := N1) (d := D1)
  have v2 := Mth.low_val (n := N2) (d := D2)
  generalize (Mth.low N1 D1).1 = p at *
  generalize (Mth.low N1 D1).2 = q at *
  generalize (Mth.low N2 D2).1 = r at *
  generalize (Mth.low N2 D2).2 = s at *
  have m1 := mul8 x0 (by omega) y0 (by omega)
  have m2 := mul8 (show 0 ≤ q by omega) (by omega) (show 0 ≤ s by omega) (by omega)
  have m3 := Int.mul_pos x2 y2
  have m4 := Int.mul_pos b0 d0
  have E : Mth.low (p * r) (q * s) = Mth.low (N1 * N2) (D1 * D2) := by
    refine Mth.low_cross (by omega) (by omega) ?_
    have t1 : p * r * (D1 * D2) = (p * D1) * (r * D2) := by ac_rfl
    rw [t1, v1, v2]; ac_rfl
  refine Mth.Evn.congr (g := fun k => (impl_lowest.f k (p * r) (q * s)).bind fun b => some (b.1, b.2)) (fun k => ?_) ?_
  · unfold impl_frac_times.f
    rw [wrap_id (x := p * r) (by omega) (by omega), wrap_id (x := q * s) (by omega) (by omega)]
  · rw [← E]
    exact (lowest_ev _ _ (by omega) (by omega) (by omega) (by omega) (by omega)).bind (Mth.Evn.now _)
theorem plus_ev {N1 D1 N2 D2 : Int} (a0 : 0 ≤ N1) (a1 : N1 ≤ 100000000) (b0 : 0 < D1) (b1 : D1 ≤ 100000000) (c0 : 0 ≤ N2) (c1 : N2 ≤ 100000000) (d0 : 0 < D2) (d1 : D2 ≤ 100000000) :
    Mth.Evn (fun k => impl_frac_plus.f k (Mth.low N1 D1).1 (Mth.low N1 D1).2 (Mth.low N2 D2).1 (Mth.low N2 D2).2) (Mth.low (N1 * D2 + N2 * D1) (D1 * D2)) := by
  obtain ⟨⟨x0, x1⟩, x2, x3⟩ := low_bd a0 b0
  obtain ⟨⟨y0, y1⟩, y2, y3⟩ := low_bd c0 d0
  have v1 := Mth.low_val (n := N1) (d := D1)
  have v2 := Mth.low_val (n := N2) (d := D2)
  generalize (Mth.low N1 D1).1 = p at *
  generalize (Mth.low N1 D1).2 = q at *
  generalize (Mth.low N2 D2).1 = r at *
  generalize (Mth.low N2 D2).2 = s at *
  have m1 := mul8 x0 (by omega) (show 0 ≤ s by omega) (by omega)
  have m5 := mul8 y0 (by omega) (show 0 ≤ q by omega) (by omega)
  have m2 := mul8 (show 0 ≤ q by omega) (by omega) (show 0 ≤ s by omega) (by omega)
  have m3 := Int.mul_pos x2 y2
  have m4 := Int.mul_pos b0 d0
  have E : Mth.low (p * s + r * q) (q * s) = Mth.low (N1 * D2 + N2 * D1) (D1 * D2) := by
    refine Mth.low_cross (by omega) (by omega) ?_
    rw [Int.add_mul, Int.add_mul]
    have t1 : p * s * (D1 * D2) = (p * D1) * (s * D2) := by ac_rfl
    have t2 : r * q * (D1 * D2) = (r * D2) * (q * D1) := by ac_rfl
    rw [t1, t2, v1, v2]
    have t3 : N1 * q * (s * D2) = N1 * D2 * (q * s) := by ac_rfl
    have t4 : N2 * s * (q * D1) = N2 * D1 * (q * s) := by ac_rfl
    rw [t3, t4]
  refine Mth.Evn.congr (g := fun k => (impl_lowest.f k (p * s + r * q) (q * s)).bind fun b => some (b.1, b.2)) (fun k => ?_) ?_
  · unfold impl_frac_plus.f
    rw [wrap_id (x := p * s) (by omega) (by omega), wrap_id (x := r * q) (by omega) (by omega), wrap_id (x := q * s) (by omega) (by omega), wrap_id (x := p * s + r * q) (by omega) (by omega)]
  · rw [← E]
    exact (lowest_ev _ _ (by omega) (by omega) (by omega) (by omega) (by omega)).bind (Mth.Evn.now _)
/-- A sum over one denominator. -/
theorem low_sum {A B D : Int} (hD : 0 < D) : Mth.low (A * D + B * D) (D * D) = Mth.low (A + B) D := by
  have := Int.mul_pos hD hD
  refine Mth.low_cross (by omega) (by omega) ?_
  rw [← Int.add_mul, Int.mul_assoc]
/-- A table of G + 1 places. -/
def tabf {α : Type} (G : Nat) (g : Nat → α) : List α := (List.range (G + 1)).map g
theorem tabf_len {α : Type} (G : Nat) (g : Nat → α) : (tabf G g).length = G + 1 := by simp [tabf]
theorem tabf_get {α : Type} (G : Nat) (g : Nat → α) (z : α) {p : Nat} (h : p ≤ G) : (tabf G g).getD p z = g p := by
  unfold tabf
  simp [List.getD_eq_getElem?_getD, show p < G + 1 by omega]
theorem tabf_set {α : Type} (G : Nat) (g : Nat → α) (p : Nat) (v : α) : (tabf G g).set p v = tabf G (fun q => if q = p then v else g q) := by
  apply List.ext_getElem?
  intro i
  unfold tabf
  rw [List.getElem?_set]
  by_cases h : i < G + 1
  · by_cases hi : p = i
    · subst hi; simp [h]
    · simp [h, hi, show ¬ i = p from fun e => hi e.symm]
  · by_cases hi : p = i
    · subst hi; simp [h]
    · simp [h, hi]
theorem tabf_congr {α : Type} {G : Nat} {g g' : Nat → α} (h : ∀ q, q ≤ G → g q = g' q) : tabf G g = tabf G g' := by
  unfold tabf
  exact List.map_congr_left fun q hq => h q (by simp at hq; omega)
theorem tabf_rep {α : Type} (G : Nat) (v : α) : List.replicate (G + 1) v = tabf G (fun _ => v) := by
  unfold tabf
  rw [List.map_const', List.length_range]
/-- The greatest stake. -/
def bld (G p : Nat) : Nat := min p (G - p)
/-- A stake's part takes the place of the best till now: kind 0 for the stake 1, kind 1 for the greatest one, kind 2 for a greater part. -/
def upd (kd : Int) (most s : Nat) (cur part : Int) : Int := if (kd = 0 ∧ s = 1) ∨ (kd = 1 ∧ s = most) ∨ (kd = 2 ∧ part > cur) then part else cur
def fld (kd : Int) (most : Nat) (f : Nat → Int) (init : Int) : Nat → Int
  | 0 => init
  | j + 1 => upd kd most (j + 1) (fld kd most f init j) (f (j + 1))
/-- The chance to be at the goal within n plays from a purse p, in parts of O to the power of n. -/
def Wn (kd H O : Int) (G : Nat) : Nat → Nat → Int
  | 0, p => if p = G then 1 else 0
  | n + 1, p => fld kd (bld G p) (fun s => H * Wn kd H O G n (p + s) + (O - H) * Wn kd H O G n (p - s)) (Wn kd H O G n p * O) (bld G p)
def prt (kd H O : Int) (G n p s : Nat) : Int := H * Wn kd H O G n (p + s) + (O - H) * Wn kd H O G n (p - s)
theorem Wn_succ (kd H O : Int) (G n p : Nat) : Wn kd H O G (n + 1) p = fld kd (bld G p) (prt kd H O G n p) (Wn kd H O G n p * O) (bld G p) := rfl
theorem fld_bd {kd : Int} {most : Nat} {f : Nat → Int} {init M : Int} (h0 : 0 ≤ init) (h1 : init ≤ M) (hf : ∀ s, 0 ≤ f s ∧ f s ≤ M) : ∀ j, 0 ≤ fld kd most f init j ∧ fld kd most f init j ≤ M
  | 0 => ⟨h0, h1⟩
  | j + 1 => by
    have ih := fld_bd (kd := kd) (most := most) h0 h1 hf j
    have := hf (j + 1)
    rw [fld, upd]
    split
    · exact this
    · exact ih
theorem prt_of {H O x y M : Int} (hH : 0 ≤ H) (hHO : H ≤ O) (x0 : 0 ≤ x) (x1 : x ≤ M) (y0 : 0 ≤ y) (y1 : y ≤ M) : 0 ≤ H * x + (O - H) * y ∧ H * x + (O - H) * y ≤ M * O := by
  have h1 := Int.mul_nonneg hH x0
  have h2 := Int.mul_nonneg (show 0 ≤ O - H by omega) y0
  have h3 := Int.mul_le_mul_of_nonneg_left x1 hH
  have h4 := Int.mul_le_mul_of_nonneg_left y1 (show 0 ≤ O - H by omega)
  have h5 : H * M + (O - H) * M = M * O := by rw [← Int.add_mul, Int.add_comm, Int.sub_add_cancel, Int.mul_comm]
  omega
theorem Wn_bd {kd H O : Int} {G : Nat} (hH : 0 ≤ H) (hHO : H ≤ O) : ∀ n p, 0 ≤ Wn kd H O G n p ∧ Wn kd H O G n p ≤ O ^ n
  | 0, p => by rw [Wn, Int.pow_zero]; split <;> omega
  | n + 1, p => by
    have ih := Wn_bd (kd := kd) (G := G) hH hHO n
    rw [Wn_succ, Int.pow_succ]
    refine fld_bd (Int.mul_nonneg (ih p).1 (by omega)) (Int.mul_le_mul_of_nonneg_right (ih p).2 (by omega)) (fun s => ?_) _
    exact prt_of hH hHO (ih _).1 (ih _).2 (ih _).1 (ih _).2
theorem prt_bd {kd H O : Int} {G : Nat} (hH : 0 ≤ H) (hHO : H ≤ O) (n p s : Nat) : 0 ≤ prt kd H O G n p s ∧ prt kd H O G n p s ≤ O ^ n * O :=
  prt_of hH hHO (Wn_bd hH hHO _ _).1 (Wn_bd hH hHO _ _).2 (Wn_bd hH hHO _ _).1 (Wn_bd hH hHO _ _).2
theorem pow6 {O : Int} (h : 1 ≤ O) (h' : O ≤ 10) {n : Nat} (hn : n ≤ 6) : 1 ≤ O ^ n ∧ O ^ n ≤ 1000000 := by
  have a := Mth.pow_pos' O h n
  have b := (Mth.pow_bd O 10 (by omega) h' n).2
  have c : (10 : Int) ^ n ≤ 10 ^ 6 := Mth.pow_le_M 10 (by omega) n 6 hn
  have d : (10 : Int) ^ 6 = 1000000 := by decide
  omega
section
variable {kd H O : Int} {G : Nat} (hH : 0 ≤ H) (hHO : H ≤ O) (hO : 1 ≤ O) (hO' : O ≤ 10) (hG1 : 1 ≤ G) (hG : G ≤ 16)
theorem skPart_eq (hH : 0 ≤ H) (hHO : H ≤ O) (hO : 1 ≤ O) (hO' : O ≤ 10) (hG : G ≤ 16) {n p s : Nat} (hn : n ≤ 5) (h1 : p + s ≤ G) (h2 : s ≤ p) : spec_skPart.f H O (tabf G (Wn kd H O G n)) p s = some (prt kd H O G n p s) := by
  have e1 : wrap64 ((p : Int) + (s : Int)) = ((p + s : Nat) : Int) := by rw [wrap_id (by omega) (by omega)]; omega
  have e2 : wrap64 ((p : Int) - (s : Int)) = ((p - s : Nat) : Int) := by rw [wrap_id (by omega) (by omega)]; omega
  have r1 : rd (tabf G (Wn kd H O G n)) ((p + s : Nat) : Int) = Wn kd H O G n (p + s) := by unfold rd; exact tabf_get G _ _ h1
  have r2 : rd (tabf G (Wn kd H O G n)) ((p - s : Nat) : Int) = Wn kd H O G n (p - s) := by unfold rd; exact tabf_get G _ _ (by omega)
  have t := pow6 hO hO' (n := n) (by omega)
  have b1 := Wn_bd (kd := kd) (G := G) hH hHO n (p + s)
  have b2 := Wn_bd (kd := kd) (G := G) hH hHO n (p - s)
  have m1 := mul8 hH (by omega) b1.1 (by omega)
  have m2 := mul8 (show 0 ≤ O - H by omega) (by omega) b2.1 (by omega)
  unfold spec_skPart.f
  rw [e1, e2, tabf_len, if_pos (by omega), if_pos (by omega), if_pos (by omega), if_pos (by omega), r1, r2, wrap_id (x := O - H) (by omega) (by omega), wrap_id (x := H * _) (by omega) (by omega), wrap_id (x := (O - H) * _) (by omega) (by omega), wrap_id (by omega) (by omega)]
  rfl
/-- The table in the making: the places below p are those of the next number of plays, at p stands v. -/
def mid (kd H O : Int) (G n p : Nat) (v : Int) : List Int := tabf G fun q => if q = p then v else if q < p then Wn kd H O G (n + 1) q else 0
theorem mid_set (n p : Nat) (v u : Int) : (mid kd H O G n p v).set p u = mid kd H O G n p u := by
  unfold mid
  rw [tabf_set]
  exact tabf_congr fun q _ => by by_cases h : q = p <;> simp [h]
theorem mid_rd {n p : Nat} (v : Int) (h : p ≤ G) : rd (mid kd H O G n p v) (p : Int) = v := by
  unfold rd mid
  rw [show ((p : Nat) : Int).toNat = p by omega, tabf_get G _ _ h]; simp
theorem mid_next (n p : Nat) : mid kd H O G n p (Wn kd H O G (n + 1) p) = mid kd H O G n (p + 1) 0 := by
  unfold mid
  refine tabf_congr fun q _ => ?_
  by_cases h : q = p
  · subst h; simp
  · by_cases h2 : q = p + 1
    · subst h2; simp; intro h; omega
    · by_cases h3 : q < p
      · simp [h, h2, h3, show q < p + 1 by omega]
      · simp [h, h2, h3, show ¬ q < p + 1 by omega]
theorem mid_last (n : Nat) : mid kd H O G n (G + 1) 0 = tabf G (Wn kd H O G (n + 1)) := by
  unfold mid
  exact tabf_congr fun q hq => by simp [show ¬ q = G + 1 by omega, show q < G + 1 by omega]
theorem mid_zero (n : Nat) : List.replicate (G + 1) (0 : Int) = mid kd H O G n 0 0 := by
  rw [tabf_rep]; unfold mid
  exact tabf_congr fun q _ => by by_cases h : q = 0 <;> simp [h]
theorem skBold_eq {p : Nat} (hG : G ≤ 16) (hp : p ≤ G) : spec_skBold.f p G = some (bld G p : Int) := by
  unfold spec_skBold.f spec_l1Least.f bld
  rw [wrap_id (by omega) (by omega)]
  by_cases h : (p : Int) < (G : Int) - (p : Int)
  · rw [if_pos h]; simp only [Option.bind_some]; congr 1; omega
  · rw [if_neg h]; simp only [Option.bind_some]; congr 1; omega
include hH hHO hO hO' hG
/-- The stakes of one purse. -/
theorem l2_ev (hkd : kd = 0 ∨ kd = 1 ∨ kd = 2) {n p : Nat} (hn : n ≤ 5) (hp : p ≤ G) (x2 : Int) {r : List Int}
    (hc : Mth.Evn (fun k => spec_skWithin.l1 k G x2 kd (tabf G (Wn kd H O G n)) (mid kd H O G n p (fld kd (bld G p) (prt kd H O G n p) (Wn kd H O G n p * O) (bld G p))) ((G + 1 : Nat) : Int) (wrap64 ((p : Int) + 1)) H O) r) :
    ∀ d j : Nat, j + d = bld G p → Mth.Evn (fun k => spec_skWithin.l2 k G x2 kd (tabf G (Wn kd H O G n)) (mid kd H O G n p (fld kd (bld G p) (prt kd H O G n p) (Wn kd H O G n p * O) j)) p (bld G p : Int) ((j + 1 : Nat) : Int) ((G + 1 : Nat) : Int) p H O) r
  | 0, j, hj => by
    have e : j = bld G p := by omega
    subst e
    refine hc.step fun k => ?_
    simp only [spec_skWithin.l2]
    rw [if_neg (by omega)]
  | d + 1, j, hj => by
    have ih := l2_ev hkd hn hp x2 hc d (j + 1) (by omega)
    have hb : bld G p ≤ p ∧ bld G p ≤ G - p := by unfold bld; omega
    have ep := skPart_eq (kd := kd) (n := n) (p := p) (s := j + 1) hH hHO hO hO' hG hn (by omega) (by omega)
    have ew : wrap64 (((j + 1 : Nat) : Int) + 1) = ((j + 1 + 1 : Nat) : Int) := by rw [wrap_id (by omega) (by omega)]; omega
    have hl (v : Int) : (p : Int) < ((mid kd H O G n p v).length : Int) := by unfold mid; rw [tabf_len]; omega
    have h0 : (0 : Int) ≤ (p : Int) := by omega
    have hpn : ((p : Nat) : Int).toNat = p := by omega
    refine ih.step fun k => ?_
    simp only [spec_skWithin.l2]
    rw [if_pos (by omega), ep]
    simp only [Option.bind_some]
    rw [fld, upd, hpn, ew]
    simp only [mid_set, mid_rd _ hp, if_pos h0, if_pos (hl _)]
    generalize fld kd (bld G p) (prt kd H O G n p) (Wn kd H O G n p * O) j = c
    generalize prt kd H O G n p (j + 1) = u
    rcases hkd with rfl | rfl | rfl
    · by_cases h1 : j + 1 = 1
      · rw [if_pos rfl, if_pos (show ((j + 1 : Nat) : Int) = 1 by omega), if_pos (.inl ⟨rfl, h1⟩)]
      · rw [if_pos rfl, if_neg (show ¬ ((j + 1 : Nat) : Int) = 1 by omega), if_neg (show ¬ (0 : Int) = 1 by decide), if_neg (show ¬ (0 : Int) = 2 by decide), if_neg (by rintro (⟨-, h⟩ | ⟨h, -⟩ | ⟨h, -⟩) <;> omega)]
    · by_cases h1 : j + 1 = bld G p
      · rw [if_neg (show ¬ (1 : Int) = 0 by decide), if_pos rfl, if_pos (show ((j + 1 : Nat) : Int) = (bld G p : Int) by omega), if_pos (.inr (.inl ⟨rfl, h1⟩))]
      · rw [if_neg (show ¬ (1 : Int) = 0 by decide), if_pos rfl, if_neg (show ¬ ((j + 1 : Nat) : Int) = (bld G p : Int) by omega), if_neg (show ¬ (1 : Int) = 2 by decide), if_neg (by rintro (⟨h, -⟩ | ⟨-, h⟩ | ⟨h, -⟩) <;> omega)]
    · by_cases h1 : u > c
      · rw [if_neg (show ¬ (2 : Int) = 0 by decide), if_neg (show ¬ (2 : Int) = 1 by decide), if_pos rfl, if_pos h1, if_pos (.inr (.inr ⟨rfl, h1⟩))]
      · rw [if_neg (show ¬ (2 : Int) = 0 by decide), if_neg (show ¬ (2 : Int) = 1 by decide), if_pos rfl, if_neg h1, if_neg (by rintro (⟨h, -⟩ | ⟨h, -⟩ | ⟨-, h⟩) <;> omega)]
/-- All purses. -/
theorem l1_ev (hkd : kd = 0 ∨ kd = 1 ∨ kd = 2) {n : Nat} (hn : n ≤ 5) (x2 : Int) {r : List Int}
    (hc : Mth.Evn (fun k => spec_skWithin.l0 k G (wrap64 (x2 - 1)) kd (tabf G (Wn kd H O G (n + 1))) H O) r) :
    ∀ d p : Nat, p + d = G + 1 → Mth.Evn (fun k => spec_skWithin.l1 k G x2 kd (tabf G (Wn kd H O G n)) (mid kd H O G n p 0) ((G + 1 : Nat) : Int) p H O) r
  | 0, p, hp => by
    have e : p = G + 1 := by omega
    subst e
    refine hc.step fun k => ?_
    simp only [spec_skWithin.l1]
    rw [if_neg (by omega), mid_last]
  | d + 1, p, hp => by
    have ih := l1_ev hkd hn x2 hc d (p + 1) (by omega)
    have ew : wrap64 ((p : Int) + 1) = ((p + 1 : Nat) : Int) := by rw [wrap_id (by omega) (by omega)]; omega
    have e0 : Wn kd H O G (n + 1) p = fld kd (bld G p) (prt kd H O G n p) (Wn kd H O G n p * O) (bld G p) := Wn_succ _ _ _ _ _ _
    rw [← mid_next, e0, ← ew] at ih
    have h2 := l2_ev hH hHO hO hO' hG hkd hn (show p ≤ G by omega) x2 ih (bld G p) 0 (by omega)
    have t := pow6 hO hO' (n := n) (by omega)
    have b := Wn_bd (kd := kd) (G := G) hH hHO n p
    have m := mul8 b.1 (by omega) (show 0 ≤ O by omega) (by omega)
    have er : rd (tabf G (Wn kd H O G n)) (p : Int) = Wn kd H O G n p := by unfold rd; rw [show ((p : Nat) : Int).toNat = p by omega]; exact tabf_get G _ _ (by omega)
    refine h2.step fun k => ?_
    simp only [spec_skWithin.l1]
    rw [if_pos (by omega), if_pos (by omega), tabf_len, if_pos (by omega), show (mid kd H O G n p 0).length = G + 1 by unfold mid; rw [tabf_len], if_pos (by omega), skBold_eq hG (by omega), er, show ((p : Nat) : Int).toNat = p by omega, wrap_id (x := Wn kd H O G n p * O) (by omega) (by omega), mid_set]
    rfl
/-- All plays. -/
theorem l0_ev (hkd : kd = 0 ∨ kd = 1 ∨ kd = 2) : ∀ d n : Nat, n + d ≤ 6 → Mth.Evn (fun k => spec_skWithin.l0 k G d kd (tabf G (Wn kd H O G n)) H O) (tabf G (Wn kd H O G (n + d)))
  | 0, n, _ => by
    refine (Mth.Evn.now _).step fun k => ?_
    simp only [spec_skWithin.l0]
    rw [if_neg (by omega)]; rfl
  | d + 1, n, h => by
    have ih := l0_ev hkd d (n + 1) (by omega)
    have ew : wrap64 (((d + 1 : Nat) : Int) - 1) = (d : Int) := by rw [wrap_id (by omega) (by omega)]; omega
    rw [← ew] at ih
    have h1 := l1_ev hH hHO hO hO' hG hkd (show n ≤ 5 by omega) ((d + 1 : Nat) : Int) ih (G + 1) 0 (by omega)
    have eg : wrap64 ((G : Int) + 1) = ((G + 1 : Nat) : Int) := by rw [wrap_id (by omega) (by omega)]; omega
    rw [show n + (d + 1) = n + 1 + d by omega]
    refine h1.step fun k => ?_
    simp only [spec_skWithin.l0]
    rw [if_pos (by omega), eg, if_pos (by omega), if_pos (by omega), show (((G + 1 : Nat) : Int)).toNat = G + 1 by omega]
    simp only [Option.bind_some, List.length_replicate]
    rw [mid_zero (kd := kd) (H := H) (O := O) n]
    rfl
theorem skWithin_ev (hkd : kd = 0 ∨ kd = 1 ∨ kd = 2) (d : Nat) (h : d ≤ 6) : Mth.Evn (fun k => spec_skWithin.f k H O G d kd) (tabf G (Wn kd H O G d)) := by
  have h0 := l0_ev hH hHO hO hO' hG hkd d 0 (by omega)
  rw [Nat.zero_add] at h0
  have eg : wrap64 ((G : Int) + 1) = ((G + 1 : Nat) : Int) := by rw [wrap_id (by omega) (by omega)]; omega
  refine Mth.Evn.congr (fun k => ?_) h0
  unfold spec_skWithin.f
  rw [eg, if_pos (by omega), if_pos (by omega), show (((G + 1 : Nat) : Int)).toNat = G + 1 by omega]
  simp only [Option.bind_some, List.length_replicate]
  rw [if_pos (by omega), if_pos (by omega), show ((G : Nat) : Int).toNat = G by omega, tabf_rep, tabf_set]
  have e : tabf G (fun q => if q = G then 1 else (fun _ => (0 : Int)) q) = tabf G (Wn kd H O G 0) := tabf_congr fun q _ => by rw [Wn]
  rw [e]
end
theorem skPower_ev {O : Int} (hO : 1 ≤ O) (hO' : O ≤ 10) : ∀ (d n : Nat), n + d ≤ 6 → Mth.Evn (fun k => spec_skPower.l0 k O d (O ^ n)) (O ^ (n + d))
  | 0, n, _ => by
    refine (Mth.Evn.now _).step fun k => ?_
    simp only [spec_skPower.l0]
    rw [if_neg (by omega)]; rfl
  | d + 1, n, h => by
    have ih := skPower_ev hO hO' d (n + 1) (by omega)
    have ew : wrap64 (((d + 1 : Nat) : Int) - 1) = (d : Int) := by rw [wrap_id (by omega) (by omega)]; omega
    have t := pow6 hO hO' (n := n) (by omega)
    have m := mul8 (show 0 ≤ O ^ n by omega) (by omega) (show 0 ≤ O by omega) (by omega)
    rw [show n + (d + 1) = n + 1 + d by omega]
    refine ih.step fun k => ?_
    simp only [spec_skPower.l0]
    rw [if_pos (by omega), ew, Int.pow_succ, wrap_id (by omega) (by omega)]
theorem ofToss_ev {H O : Int} (hH : 0 ≤ H) (hHO : H ≤ O) (hO : 1 ≤ O) (hO' : O ≤ 10) : Mth.Evn (fun k => impl_Coin_ofToss.f k H O 104) (Mth.low H O) ∧ Mth.Evn (fun k => impl_Coin_ofToss.f k H O 116) (Mth.low (O - H) O) := by
  have c1 := lowest_ev H O (by omega) (by omega) (by omega) (by omega) (by omega)
  have c2 := lowest_ev (O - H) O (by omega) (by omega) (by omega) (by omega) (by omega)
  constructor
  · refine Mth.Evn.congr (fun k => ?_) (c1.bind (g := fun _ b => some (b.1, b.2)) (Mth.Evn.now _))
    unfold impl_Coin_ofToss.f
    rw [if_pos rfl]
  · refine Mth.Evn.congr (fun k => ?_) (c2.bind (g := fun _ b => some (b.1, b.2)) (Mth.Evn.now _))
    unfold impl_Coin_ofToss.f
    rw [if_neg (by decide), wrap_id (x := O - H) (by omega) (by omega)]
section
variable {kd H O : Int} {G : Nat} (hH : 0 ≤ H) (hHO : H ≤ O) (hO : 1 ≤ O) (hO' : O ≤ 10) (hG1 : 1 ≤ G) (hG : G ≤ 16)
include hH hHO hO hO'
/-- Two plays behind a toss, told as fractions. -/
theorem won_ev {n : Nat} (hn : n ≤ 5) {x y : Int} (x0 : 0 ≤ x) (x1 : x ≤ O ^ n) (y0 : 0 ≤ y) (y1 : y ≤ O ^ n) :
    Mth.Evn (fun k => impl_frac_times.f k (Mth.low x (O ^ n)).1 (Mth.low x (O ^ n)).2 (Mth.low H O).1 (Mth.low H O).2) (Mth.low (H * x) (O ^ (n + 1))) ∧
    Mth.Evn (fun k => impl_frac_times.f k (Mth.low y (O ^ n)).1 (Mth.low y (O ^ n)).2 (Mth.low (O - H) O).1 (Mth.low (O - H) O).2) (Mth.low ((O - H) * y) (O ^ (n + 1))) ∧
    Mth.Evn (fun k => impl_frac_plus.f k (Mth.low (H * x) (O ^ (n + 1))).1 (Mth.low (H * x) (O ^ (n + 1))).2 (Mth.low ((O - H) * y) (O ^ (n + 1))).1 (Mth.low ((O - H) * y) (O ^ (n + 1))).2) (Mth.low (H * x + (O - H) * y) (O ^ (n + 1))) := by
  have t := pow6 hO hO' (n := n) (by omega)
  have t' := pow6 hO hO' (n := n + 1) (by omega)
  have z1 : x ≤ 100000000 := by omega
  have z2 : y ≤ 100000000 := by omega
  have z3 : O ^ n ≤ 100000000 := by omega
  have z4 : 0 < O ^ n := by omega
  have z5 : O ^ (n + 1) ≤ 100000000 := by omega
  have z6 : 0 < O ^ (n + 1) := by omega
  have z7 : H ≤ 100000000 := by omega
  have z8 : O ≤ 100000000 := by omega
  have z9 : 0 < O := by omega
  have z10 : 0 ≤ O - H := by omega
  have z11 : O - H ≤ 100000000 := by omega
  have m1 := Int.mul_nonneg hH x0
  have m2 := Int.mul_nonneg z10 y0
  have m3 : H * x ≤ 100000000 := by
    have := Int.mul_le_mul (show H ≤ 10 by omega) (show x ≤ 1000000 by omega) x0 (by omega)
    omega
  have m4 : (O - H) * y ≤ 100000000 := by
    have := Int.mul_le_mul (show O - H ≤ 10 by omega) (show y ≤ 1000000 by omega) y0 (by omega)
    omega
  have c1 := times_ev x0 z1 z4 z3 hH z7 z9 z8
  have c2 := times_ev y0 z2 z4 z3 z10 z11 z9 z8
  have c3 := plus_ev m1 m3 z6 z5 m2 m4 z6 z5
  rw [low_sum z6] at c3
  rw [← Int.pow_succ, Int.mul_comm x H] at c1
  rw [← Int.pow_succ, Int.mul_comm y (O - H)] at c2
  exact ⟨c1, c2, c3⟩
theorem isMore_eq {n : Nat} (hn : n ≤ 6) {x y : Int} (x0 : 0 ≤ x) (x1 : x ≤ O ^ n) (y0 : 0 ≤ y) (y1 : y ≤ O ^ n) :
    impl_frac_isMore.f (Mth.low x (O ^ n)).1 (Mth.low x (O ^ n)).2 (Mth.low y (O ^ n)).1 (Mth.low y (O ^ n)).2 = some (decide (x > y)) := by
  have _u := And.intro hH hHO
  have t := pow6 hO hO' (n := n) (by omega)
  obtain ⟨⟨a0, a1⟩, a2, a3⟩ := low_bd x0 (show 0 < O ^ n by omega)
  obtain ⟨⟨b0, b1⟩, b2, b3⟩ := low_bd y0 (show 0 < O ^ n by omega)
  have v1 := Mth.low_val (n := x) (d := O ^ n)
  have v2 := Mth.low_val (n := y) (d := O ^ n)
  generalize (Mth.low x (O ^ n)).1 = p at *
  generalize (Mth.low x (O ^ n)).2 = q at *
  generalize (Mth.low y (O ^ n)).1 = r at *
  generalize (Mth.low y (O ^ n)).2 = s at *
  generalize O ^ n = D at *
  have m1 := mul8 a0 (by omega) (show 0 ≤ s by omega) (by omega)
  have m2 := mul8 b0 (by omega) (show 0 ≤ q by omega) (by omega)
  unfold impl_frac_isMore.f
  rw [wrap_id (x := p * s) (by omega) (by omega), wrap_id (x := r * q) (by omega) (by omega)]
  have e1 : p * s * D = x * (q * s) := by
    rw [show p * s * D = p * D * s by ac_rfl, v1]; ac_rfl
  have e2 : r * q * D = y * (q * s) := by
    rw [show r * q * D = r * D * q by ac_rfl, v2]; ac_rfl
  have hqs := Int.mul_pos a2 b2
  have hD : 0 < D := by omega
  congr 1
  apply decide_eq_decide.2
  constructor
  · intro h
    have h1 := Int.mul_lt_mul_of_pos_right (show r * q < p * s from h) hD
    rw [e1, e2] at h1
    exact Int.lt_of_mul_lt_mul_right h1 (Int.le_of_lt hqs)
  · intro h
    have h1 := Int.mul_lt_mul_of_pos_right (show y < x from h) hqs
    rw [← e1, ← e2] at h1
    exact Int.lt_of_mul_lt_mul_right h1 (Int.le_of_lt hD)
end
/-- The stake that is staked. -/
def stk (G p : Nat) : Nat := bld G p
theorem stk_bd {G p : Nat} (hp : 0 < p) (hpG : p < G) : 1 ≤ stk G p ∧ stk G p ≤ bld G p := by unfold stk bld; omega
theorem Wn_stk {H O : Int} {G p : Nat} (hp : 0 < p) (hpG : p < G) (n : Nat) : Wn 1 H O G (n + 1) p = prt 1 H O G n p (stk G p) := by
  rw [Wn_succ]
  unfold stk
  obtain ⟨m, hm⟩ : ∃ m, bld G p = m + 1 := ⟨bld G p - 1, by have := stk_bd hp hpG; unfold stk at this; omega⟩
  rw [hm, fld, upd, if_pos (.inr (.inl ⟨rfl, rfl⟩))]
theorem bold_eq {G p : Nat} (hG : G ≤ 16) (hp : p ≤ G) : impl_Stakes_bold.f p G = some (bld G p : Int) := by
  unfold impl_Stakes_bold.f bld mn
  rw [wrap_id (by omega) (by omega)]
  congr 1
  split <;> omega
theorem allowed_eq {G p : Nat} (hG : G ≤ 16) (hp : 0 < p) (hpG : p < G) : impl_boldly.f (p : Int) (G : Int) = some [((stk G p : Nat) : Int)] := by
  unfold impl_boldly.f stk
  rw [bold_eq hG (by omega)]
  simp only [Option.bind_some]
section
variable {H O : Int} {G : Nat}
theorem Wn_goal (G : Nat) : ∀ n, Wn 1 H O G n G = O ^ n
  | 0 => by rw [Wn, if_pos rfl, Int.pow_zero]
  | n + 1 => by
    have hb : bld G G = 0 := by unfold bld; omega
    rw [Wn_succ, hb, fld, Wn_goal G n, Int.pow_succ]
theorem Wn_ruin (hG1 : 1 ≤ G) : ∀ n, Wn 1 H O G n 0 = 0
  | 0 => by rw [Wn, if_neg (by omega)]
  | n + 1 => by
    have hb : bld G 0 = 0 := by unfold bld; omega
    rw [Wn_succ, hb, fld, Wn_ruin hG1 n, Int.zero_mul]
variable (hH : 0 ≤ H) (hHO : H ≤ O) (hO : 1 ≤ O) (hO' : O ≤ 10) (hG1 : 1 ≤ G) (hG : G ≤ 16)
include hH hHO hO hO' hG
theorem by_at {n p s : Nat} (hn : n ≤ 5) (h1 : p + s ≤ G) (h2 : s ≤ p) (a4 : Int) : ∃ K, ∀ mo : Int → Int → Int → Int → Int → Int → Option (Int × Int),
    mo H O ((p + s : Nat) : Int) G n a4 = some (Mth.low (Wn 1 H O G n (p + s)) (O ^ n)) → mo H O ((p - s : Nat) : Int) G n a4 = some (Mth.low (Wn 1 H O G n (p - s)) (O ^ n)) →
    ∀ k, K ≤ k → impl_Coin_by.f mo k H O p G s ((n + 1 : Nat) : Int) a4 = some (Mth.low (prt 1 H O G n p s) (O ^ (n + 1))) := by
  have e1 : wrap64 ((p : Int) + (s : Int)) = ((p + s : Nat) : Int) := by rw [wrap_id (by omega) (by omega)]; omega
  have e2 : wrap64 ((p : Int) - (s : Int)) = ((p - s : Nat) : Int) := by rw [wrap_id (by omega) (by omega)]; omega
  have e3 : wrap64 (((n + 1 : Nat) : Int) - 1) = (n : Int) := by rw [wrap_id (by omega) (by omega)]; omega
  have b1 := Wn_bd (kd := 1) (G := G) hH hHO n (p + s)
  have b2 := Wn_bd (kd := 1) (G := G) hH hHO n (p - s)
  obtain ⟨⟨K1, c1⟩, ⟨K2, c2⟩, K3, c3⟩ := won_ev hH hHO hO hO' hn b1.1 b1.2 b2.1 b2.2
  obtain ⟨⟨K4, d1⟩, K5, d2⟩ := ofToss_ev hH hHO hO hO'
  refine ⟨K1 + K2 + K3 + K4 + K5, fun mo m1 m2 k hk => ?_⟩
  have z1 := c1 k (by omega)
  have z2 := c2 k (by omega)
  have z3 := c3 k (by omega)
  have z4 := d1 k (by omega)
  have z5 := d2 k (by omega)
  dsimp only at z1 z2 z3 z4 z5
  have ba : impl_Stakes_behind.f (p : Int) (G : Int) (s : Int) 104 = some (((p + s : Nat) : Int), (G : Int)) := by
    unfold impl_Stakes_behind.f
    rw [e1]
    simp
  have bb : impl_Stakes_behind.f (p : Int) (G : Int) (s : Int) 116 = some (((p - s : Nat) : Int), (G : Int)) := by
    unfold impl_Stakes_behind.f
    rw [e2]
    simp
  simp only [impl_Coin_by.f, ba, bb, e3, m1, m2, z4, z5, z1, z2, z3, Option.bind_some]
  rfl
include hG1
theorem most_ev (a3 : Int) : ∀ n p : Nat, n ≤ 6 → p ≤ G → ∃ K, ∀ k, K ≤ k → ∀ m, n < m → impl_Coin_most.r k m H O p G n a3 = some (Mth.low (Wn 1 H O G n p) (O ^ n)) := by
  have l11 : ∀ D : Int, 0 < D → Mth.low D D = (1, 1) := fun D hD => by
    have e : Mth.low 1 1 = ((1 : Int), (1 : Int)) := by decide
    rw [← e]; exact Mth.low_cross (by omega) (by omega) (by omega)
  have l01 : ∀ D : Int, 0 < D → Mth.low 0 D = (0, 1) := fun D hD => by
    have e : Mth.low 0 1 = ((0 : Int), (1 : Int)) := by decide
    rw [← e]; exact Mth.low_cross (by omega) (by omega) (by omega)
  intro n
  induction n with
  | zero =>
    intro p hn hp
    refine ⟨0, fun k _ m hm => ?_⟩
    obtain ⟨m, rfl⟩ : ∃ q, m = q + 1 := ⟨m - 1, by omega⟩
    simp only [impl_Coin_most.r, impl_Coin_most.g, impl_whole.f, Option.bind_some]
    rw [Wn, Int.pow_zero]
    by_cases h : p = G
    · subst h; rw [if_pos rfl, if_pos rfl, l11 1 (by omega)]
    · rw [if_neg (by omega), if_neg h, l01 1 (by omega)]
      by_cases h0 : (p : Int) = 0
      · rw [if_pos h0]
      · rw [if_neg h0, if_pos (by rfl)]
  | succ n ih =>
    intro p hn hp
    have t := pow6 hO hO' (n := n + 1) hn
    by_cases h : p = G
    · subst h
      refine ⟨0, fun k _ m hm => ?_⟩
      obtain ⟨m, rfl⟩ : ∃ q, m = q + 1 := ⟨m - 1, by omega⟩
      simp only [impl_Coin_most.r, impl_Coin_most.g, impl_whole.f, Option.bind_some]
      simp only [if_true]
      rw [Wn_goal, l11 _ (by omega)]
    · by_cases h0 : p = 0
      · subst h0
        refine ⟨0, fun k _ m hm => ?_⟩
        obtain ⟨m, rfl⟩ : ∃ q, m = q + 1 := ⟨m - 1, by omega⟩
        simp only [impl_Coin_most.r, impl_Coin_most.g, impl_whole.f, Option.bind_some]
        rw [if_neg (by omega), if_pos (by rfl), Wn_ruin hG1, l01 _ (by omega)]
      · have hs := stk_bd (G := G) (p := p) (by omega) (by omega)
        have hb : bld G p ≤ p ∧ bld G p ≤ G - p := by unfold bld; omega
        obtain ⟨K1, m1⟩ := ih (p + stk G p) (by omega) (by omega)
        obtain ⟨K2, m2⟩ := ih (p - stk G p) (by omega) (by omega)
        obtain ⟨K3, by3⟩ := by_at hH hHO hO hO' hG (n := n) (p := p) (s := stk G p) (by omega) (by omega) (by omega) a3
        have pb := prt_bd (kd := 1) (G := G) hH hHO n p (stk G p)
        rw [← Int.pow_succ] at pb
        have em := isMore_eq hH hHO hO hO' (n := n + 1) hn pb.1 pb.2 (Int.le_refl 0) (by omega)
        rw [l01 _ (by omega)] at em
        refine ⟨K1 + K2 + K3 + 2, fun k hk m hm => ?_⟩
        obtain ⟨m, rfl⟩ : ∃ q, m = q + 1 := ⟨m - 1, by omega⟩
        have y1 := m1 k (by omega) m (by omega)
        have y2 := m2 k (by omega) m (by omega)
        obtain ⟨k', rfl⟩ : ∃ q, k = q + 2 := ⟨k - 2, by omega⟩
        have y3 := by3 (impl_Coin_most.r (k' + 2) m) y1 y2 (k' + 1) (by omega)
        have er : rd [((stk G p : Nat) : Int)] 0 = ((stk G p : Nat) : Int) := rfl
        have el : (([((stk G p : Nat) : Int)] : List Int).length : Int) = 1 := rfl
        have w1 : wrap64 (0 + 1) = 1 := (wrap_id (by omega) (by omega)).trans (by omega)
        have g1 : ¬ ((p : Int) = (G : Int)) := by omega
        have g2 : ¬ ((p : Int) = 0) := by omega
        have g3 : ¬ (((n + 1 : Nat) : Int) = 0) := by omega
        rw [Wn_stk (by omega) (by omega)]
        simp only [impl_Coin_most.r, impl_Coin_most.g, impl_whole.f, Option.bind_some, allowed_eq hG (show 0 < p by omega) (show p < G by omega), if_neg g1, if_neg g2, if_neg g3]
        simp only [impl_Coin_most.l0, el]
        rw [if_pos (by decide), if_pos (by decide), if_pos (by decide), er, y3]
        simp only [Option.bind_some, em, decide_eq_true_eq, w1]
        by_cases c : prt 1 H O G n p (stk G p) > 0
        · rw [if_pos c, if_neg (by decide)]
        · rw [if_neg c, if_neg (by decide)]
          have e0 : prt 1 H O G n p (stk G p) = 0 := by omega
          rw [e0, l01 _ (by omega)]
end
theorem holds (a0_0 : Int) (a0_1 : Int) (a1_0 : Int) (a1_1 : Int) (a2 : Int) (w0_0 : (Lit.int .i64 a0_0).wf = true) (w0_1 : (Lit.int .i64 a0_1).wf = true) (w1_0 : (Lit.int .i64 a1_0).wf = true) (w1_1 : (Lit.int .i64 a1_1).wf = true) (w2 : (Lit.int .i64 a2).wf = true) : ∃ k, laws_FnExactBoldWithin.f k a0_0 a0_1 a1_0 a1_1 a2 = some true := by
  by_cases h : (((2 ≤ a0_1 ∧ a0_1 ≤ 10) ∧ (1 ≤ a0_0 ∧ a0_0 ≤ a0_1 - 1)) ∧ ((1 ≤ a1_1 ∧ a1_1 ≤ 16) ∧ (0 ≤ a1_0 ∧ a1_0 ≤ a1_1))) ∧ 0 ≤ a2 ∧ a2 ≤ 6
  · obtain ⟨⟨⟨⟨o1, o2⟩, h1, h2⟩, ⟨g1, g2⟩, p1, p2⟩, n1, n2⟩ := h
    obtain ⟨n, rfl⟩ : ∃ m : Nat, a2 = (m : Int) := ⟨a2.toNat, by omega⟩
    obtain ⟨G, rfl⟩ : ∃ m : Nat, a1_1 = (m : Int) := ⟨a1_1.toNat, by omega⟩
    obtain ⟨p, rfl⟩ : ∃ m : Nat, a1_0 = (m : Int) := ⟨a1_0.toNat, by omega⟩
    have hpG : p ≤ G := by omega
    have hn6 : n ≤ 6 := by omega
    have hG16 : G ≤ 16 := by omega
    have H0 : 0 ≤ a0_0 := by omega
    have HO : a0_0 ≤ a0_1 := by omega
    have O1 : 1 ≤ a0_1 := by omega
    have hG1 : 1 ≤ G := by omega
    have t := pow6 O1 o2 hn6
    have b := Wn_bd (kd := 1) (G := G) H0 HO n p
    have q := skPower_ev O1 o2 n 0 (by omega)
    rw [Nat.zero_add, Int.pow_zero] at q
    obtain ⟨K1, s1⟩ := skWithin_ev (kd := 1) H0 HO O1 o2 hG16 (.inr (.inl rfl)) n hn6
    obtain ⟨K2, s2⟩ := q
    obtain ⟨K3, s3⟩ := cnLow_ev (Wn 1 a0_0 a0_1 G n p) (a0_1 ^ n) b.1 (by omega) (by omega) (by omega)
    obtain ⟨K4, s4⟩ := most_ev H0 HO O1 o2 hG1 hG16 66 n p hn6 hpG
    have z1 := s1 (K1 + K2 + K3 + K4 + 7) (by omega)
    have z2 := s2 (K1 + K2 + K3 + K4 + 7) (by omega)
    have z3 := s3 (K1 + K2 + K3 + K4 + 7) (by omega)
    have z4 := s4 (K1 + K2 + K3 + K4 + 7) (by omega) (K1 + K2 + K3 + K4 + 7) (by omega)
    dsimp only at z1 z2 z3 z4
    have er : rd (tabf G (Wn 1 a0_0 a0_1 G n)) (p : Int) = Wn 1 a0_0 a0_1 G n p := by unfold rd; rw [show ((p : Nat) : Int).toNat = p by omega]; exact tabf_get G _ _ hpG
    have hlt : (p : Int) < ((G + 1 : Nat) : Int) := by omega
    refine ⟨K1 + K2 + K3 + K4 + 7, ?_⟩
    have c1 : (2 ≤ a0_1 ∧ a0_1 ≤ 10) ∧ 1 ≤ a0_0 ∧ a0_0 ≤ a0_1 - 1 := ⟨⟨o1, o2⟩, h1, h2⟩
    have c2 : (1 ≤ (G : Int) ∧ (G : Int) ≤ 16) ∧ 0 ≤ (p : Int) ∧ (p : Int) ≤ (G : Int) := ⟨⟨g1, g2⟩, p1, p2⟩
    have c3 : 0 ≤ (n : Int) ∧ (n : Int) ≤ 6 := ⟨n1, n2⟩
    simp only [laws_FnExactBoldWithin.f, laws_toCoin.f, laws_toStakes.f, spec_BoldWithin.f, spec_skPlays.f, spec_skAsked.f, spec_skChance.f, impl_BoldWithin.f, impl_areWithin.f, impl_frac_told.f, impl_Coin_most.f, ptCoin_eq, skGood_eq, IsCoin_eq, AreStakes_eq, l1In_eq, within_eq, spec_skPower.f, Option.bind_some, decide_eq_true_eq]
    simp only [if_pos c1, if_pos c2, if_pos c3, decide_eq_true c2, decide_eq_true c3, Option.bind_some, if_true, z1, z2, z4, tabf_len, if_pos p1, if_pos hlt, er, z3]
    simp
  · refine ⟨1, ?_⟩
    simp only [laws_FnExactBoldWithin.f, laws_toCoin.f, laws_toStakes.f, spec_BoldWithin.f, spec_skPlays.f, spec_skAsked.f, impl_BoldWithin.f, impl_areWithin.f, ptCoin_eq, skGood_eq, IsCoin_eq, AreStakes_eq, l1In_eq, within_eq, Option.bind_some, decide_eq_true_eq]
    by_cases c1 : (2 ≤ a0_1 ∧ a0_1 ≤ 10) ∧ 1 ≤ a0_0 ∧ a0_0 ≤ a0_1 - 1
    · by_cases c2 : (1 ≤ a1_1 ∧ a1_1 ≤ 16) ∧ 0 ≤ a1_0 ∧ a1_0 ≤ a1_1
      · by_cases c3 : 0 ≤ a2 ∧ a2 ≤ 6
        · exact absurd ⟨⟨c1, c2⟩, c3⟩ h
        · simp [c1, c2, c3]
      · simp [c1, c2]
    · simp [c1]
end Go.Proofs.Ytkcpmdkjhpbmfaa.PureFnExactBoldWithin
