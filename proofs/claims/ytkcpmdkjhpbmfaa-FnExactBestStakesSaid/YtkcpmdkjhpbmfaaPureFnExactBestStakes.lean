/- The pure statement of FnExactBestStakes: the stakes whose chance is that of the table are those of the greatest chance. No condition. -/
import Derived.Test.YtkcpmdkjhpbmfaaQFnExactBestStakesx10
import Derived.Test.YtkcpmdkjhpbmfaaMath
import Derived.OpenShut
namespace Go.Proofs.Ytkcpmdkjhpbmfaa.PureFnExactBestStakes
open Go Go.RowKit Go.Proofs.Ytkcpmdkjhpbmfaa.QFnExactBestStakes Go.Proofs.YtkcpmdkjhpbmfaaW.PrintWords Go.Proofs.YtkcpmdkjhpbmfaaW.PrintLast Go.Proofs.YtkcpmdkjhpbmfaaW.PrintMore
set_option linter.unusedVariables false
set_option linter.unusedSimpArgs false

theorem wrap_id {x : Int} (h : -9223372036854775808 ≤ x) (h' : x ≤ 9223372036854775807) : wrap64 x = x := by unfold wrap64; omega
theorem ite_dec (p q : Prop) [Decidable p] [Decidable q] : (if decide p = true then some (decide q) else some false) = some (decide (p ∧ q)) := by
  by_cases h : p <;> simp [h]
theorem some_dec {p q : Prop} [Decidable p] [Decidable q] (h : p ↔ q) : some (decide p) = some (decide q) := by rw [decide_eq_decide.2 h]
theorem div_in {x g : Int} {M : Int} (hM : M ≤ 9223372036854775807) (h : -M ≤ x) (h' : x ≤ M) (hd : g ∣ x) (h0 : g ≠ 0) : wrap64 (Int.tdiv x g) = x / g := by
  rw [Int.tdiv_eq_ediv_of_dvd hd]
  obtain ⟨c, rfl⟩ := hd
  rw [Int.mul_ediv_cancel_left _ h0]
  have : c.natAbs ≤ (g * c).natAbs := by rw [Int.natAbs_mul]; exact Nat.le_mul_of_pos_left _ (by omega)
  exact wrap_id (by omega) (by omega)
theorem l1In_eq (a b c : Int) : spec_l1In.f a b c = some (decide (b ≤ a ∧ a ≤ c)) := by
  unfold spec_l1In.f
  by_cases h : a ≥ b
  · rw [if_pos h]; simp [show b ≤ a from h]
  · rw [if_neg h]; simp; omega
theorem within_eq (a b c : Int) : impl_within.f a b c = some (decide (b ≤ a ∧ a ≤ c)) := by
  unfold impl_within.f
  by_cases h : a ≥ b
  · rw [if_pos h]; simp [show b ≤ a from h]
  · rw [if_neg h]; simp; omega
theorem ptCoin_eq (h o : Int) : spec_ptCoin.f h o = some (decide ((2 ≤ o ∧ o ≤ 10) ∧ (1 ≤ h ∧ h ≤ o - 1))) := by
  unfold spec_ptCoin.f; simp only [l1In_eq, Option.bind_some]
  by_cases h1 : 2 ≤ o ∧ o ≤ 10
  · rw [wrap_id (x := o - 1) (by omega) (by omega)]; simp [h1]
  · simp [h1]
theorem IsCoin_eq (h o : Int) : impl_IsCoin.f h o = some (decide ((2 ≤ o ∧ o ≤ 10) ∧ (1 ≤ h ∧ h ≤ o - 1))) := by
  unfold impl_IsCoin.f; simp only [within_eq, Option.bind_some]
  by_cases h1 : 2 ≤ o ∧ o ≤ 10
  · rw [wrap_id (x := o - 1) (by omega) (by omega)]; simp [h1]
  · simp [h1]
theorem skGood_eq (p g : Int) : spec_skGood.f p g = some (decide ((1 ≤ g ∧ g ≤ 16) ∧ (0 ≤ p ∧ p ≤ g))) := by
  unfold spec_skGood.f; simp only [l1In_eq, Option.bind_some]
  by_cases h1 : 1 ≤ g ∧ g ≤ 16 <;> simp [h1]
theorem AreStakes_eq (p g : Int) : impl_AreStakes.f p g = some (decide ((1 ≤ g ∧ g ≤ 16) ∧ (0 ≤ p ∧ p ≤ g))) := by
  unfold impl_AreStakes.f; simp only [within_eq, Option.bind_some]
  by_cases h1 : 1 ≤ g ∧ g ≤ 16 <;> simp [h1]
theorem common_l0 (n : Nat) : ∀ (k : Nat) (a b : Int), 0 ≤ a → 0 ≤ b → b.toNat ≤ n → n < k → impl_common.l0 k a b = some (Int.gcd a b : Int) := by
  induction n with
  | zero =>
    intro k a b ha hb hn hk
    obtain ⟨k, rfl⟩ : ∃ m, k = m + 1 := ⟨k - 1, by omega⟩
    have hb0 : b = 0 := by omega
    simp only [impl_common.l0]
    rw [if_pos hb0, hb0, Int.gcd_zero_right]; congr 1; omega
  | succ n ih =>
    intro k a b ha hb hn hk
    obtain ⟨k, rfl⟩ : ∃ m, k = m + 1 := ⟨k - 1, by omega⟩
    simp only [impl_common.l0]
    by_cases h : b = 0
    · rw [if_pos h, h, Int.gcd_zero_right]; congr 1; omega
    · have h1 := Int.tmod_nonneg b ha
      have h2 := Int.tmod_lt_of_pos a (b := b) (by omega)
      rw [if_neg h, ih k b (a.tmod b) hb h1 (by omega) (by omega), Mth.gcd_step]
theorem mx_abs (a : Int) (h : -9223372036854775807 ≤ a) (h' : a ≤ 9223372036854775807) : mx a (wrap64 (-a)) = (a.natAbs : Int) := by
  rw [wrap_id (by omega) (by omega)]; unfold mx; split <;> omega
theorem common_eq (k : Nat) (a b : Int) (ha : -9223372036854775807 ≤ a) (ha' : a ≤ 9223372036854775807) (hb : -9223372036854775807 ≤ b) (hb' : b ≤ 9223372036854775807) (hk : b.natAbs < k) :
    impl_common.f k a b = some (Int.gcd a b : Int) := by
  unfold impl_common.f
  rw [mx_abs a ha ha', mx_abs b hb hb', common_l0 b.natAbs k _ _ (by omega) (by omega) (by omega) hk]
  simp [Int.gcd]
theorem lowest_eq (k : Nat) (a b : Int) (ha : -9223372036854775807 ≤ a) (ha' : a ≤ 9223372036854775807) (hb : -9223372036854775807 ≤ b) (hb' : b ≤ 9223372036854775807) (h0 : b ≠ 0) (hk : b.natAbs < k) :
    impl_lowest.f k a b = some (Mth.low a b) := by
  have hg := Int.gcd_pos_of_ne_zero_right a h0
  have hl : Int.gcd a b ≤ b.natAbs := Nat.le_of_dvd (by omega) (Int.gcd_dvd_natAbs_right a b)
  unfold impl_lowest.f
  rw [common_eq k a b ha ha' hb hb' hk]
  simp only [Option.bind_some]
  by_cases h : b < 0
  · have e : wrap64 (-((Int.gcd a b : Nat) : Int)) = -((Int.gcd a b : Nat) : Int) := wrap_id (by omega) (by omega)
    rw [if_pos h, e, if_neg (by omega), div_in (M := 9223372036854775807) (by omega) (by omega) ha' (Int.neg_dvd.2 (Int.gcd_dvd_left a b)) (by omega), div_in (M := 9223372036854775807) (by omega) (by omega) hb' (Int.neg_dvd.2 (Int.gcd_dvd_right a b)) (by omega)]
    unfold Mth.low Mth.dv
    rw [if_pos h]
  · rw [if_neg h, if_neg (by omega), div_in (M := 9223372036854775807) (by omega) (by omega) ha' (Int.gcd_dvd_left a b) (by omega), div_in (M := 9223372036854775807) (by omega) (by omega) hb' (Int.gcd_dvd_right a b) (by omega)]
    unfold Mth.low Mth.dv
    rw [if_neg h]

theorem low_bd {n d : Int} (h0 : 0 ≤ n) (hd : 0 < d) : (0 ≤ (Mth.low n d).1 ∧ (Mth.low n d).1 ≤ n) ∧ 0 < (Mth.low n d).2 ∧ (Mth.low n d).2 ≤ d :=
  ⟨⟨Mth.low_nonneg hd h0, Mth.low_num_le hd h0⟩, Mth.low_pos (by omega), Mth.low_den_le hd⟩
theorem lowest_ev (a b : Int) (ha : -9223372036854775807 ≤ a) (ha' : a ≤ 9223372036854775807) (hb : -9223372036854775807 ≤ b) (hb' : b ≤ 9223372036854775807) (h0 : b ≠ 0) : Mth.Evn (fun k => impl_lowest.f k a b) (Mth.low a b) :=
  ⟨b.natAbs + 1, fun k hk => lowest_eq k a b ha ha' hb hb' h0 (by omega)⟩
theorem mul8 {a b : Int} (h0 : 0 ≤ a) (h : a ≤ 100000000) (k0 : 0 ≤ b) (k : b ≤ 100000000) : 0 ≤ a * b ∧ a * b ≤ 10000000000000000 := by
  have h1 := Int.mul_nonneg h0 k0
  have h2 := Int.mul_le_mul h k k0 (by omega)
  omega
theorem times_ev {N1 D1 N2 D2 : Int} (a0 : 0 ≤ N1) (a1 : N1 ≤ 100000000) (b0 : 0 < D1) (b1 : D1 ≤ 100000000) (c0 : 0 ≤ N2) (c1 : N2 ≤ 100000000) (d0 : 0 < D2) (d1 : D2 ≤ 100000000) :
    Mth.Evn (fun k => impl_frac_times.f k (Mth.low N1 D1).1 (Mth.low N1 D1).2 (Mth.low N2 D2).1 (Mth.low N2 D2).2) (Mth.low (N1 * N2) (D1 * D2)) := by
  obtain ⟨⟨x0, x1⟩, x2, x3⟩ := low_bd a0 b0
  obtain ⟨⟨y0, y1⟩, y2, y3⟩ := low_bd c0 d0
  have v1 := Mth.low_val (n := N1) (d := D1)
  have v2 := Mth.low_val (n := N2) (d := D2)
  generalize (Mth.low N1 D1).1 = p at *
  generalize (Mth.low N1 D1).2 = q at *
  generalize (Mth.low N2 D2).1 = r at *
  generalize (Mth.low N2 D2).2 = s at *
  have m1 := mul8 x0 (by omega) y0 (by omega)
  have m2 := mul8 (show 0 ≤ q by omega) (by omega) (show 0 ≤ s by omega) (by omega)
  have m3 := Int.mul_pos x2 y2
  have m4 := Int.mul_pos b0 d0
  have E : Mth.low (p * r) (q * s) = Mth.low (N1 * N2) (D1 * D2) := by
    refine Mth.low_cross (by omega) (by omega) ?_
    have t1 : p * r * (D1 * D2) = (p * D1) * (r * D2) := by ac_rfl
    rw [t1, v1, v2]; ac_rfl
  refine Mth.Evn.congr (g := fun k => (impl_lowest.f k (p * r) (q * s)).bind fun b => some (b.1, b.2)) (fun k => ?_) ?_
  · unfold impl_frac_times.f
    rw [wrap_id (x := p * r) (by omega) (by omega), wrap_id (x := q * s) (by omega) (by omega)]
  · rw [← E]
    exact (lowest_ev _ _ (by omega) (by omega) (by omega) (by omega) (by omega)).bind (Mth.Evn.now _)
theorem plus_ev {N1 D1 N2 D2 : Int} (a0 : 0 ≤ N1) (a1 : N1 ≤ 100000000) (b0 : 0 < D1) (b1 : D1 ≤ 100000000) (c0 : 0 ≤ N2) (c1 : N2 ≤ 100000000) (d0 : 0 < D2) (d1 : D2 ≤ 100000000) :
    Mth.Evn (fun k => impl_frac_plus.f k (Mth.low N1 D1).1 (Mth.low N1 D1).2 (Mth.low N2 D2).1 (Mth.low N2 D2).2) (Mth.low (N1 * D2 + N2 * D1) (D1 * D2)) := by
  obtain ⟨⟨x0, x1⟩, x2, x3⟩ := low_bd a0 b0
  obtain ⟨⟨y0, y1⟩, y2, y3⟩ := low_bd c0 d0
  have v1 := Mth.low_val (n := N1) (d := D1)
  have v2 := Mth.low_val (n := N2) (d := D2)
  generalize (Mth.low N1 D1).1 = p at *
  generalize (Mth.low N1 D1).2 = q at *
  generalize (Mth.low N2 D2).1 = r at *
  generalize (Mth.low N2 D2).2 = s at *
  have m1 := mul8 x0 (by omega) (show 0 ≤ s by omega) (by omega)
  have m5 := mul8 y0 (by omega) (show 0 ≤ q by omega) (by omega)
  have m2 := mul8 (show 0 ≤ q by omega) (by omega) (show 0 ≤ s by omega) (by omega)
  have m3 := Int.mul_pos x2 y2
  have m4 := Int.mul_pos b0 d0
  have E : Mth.low (p * s + r * q) (q * s) = Mth.low (N1 * D2 + N2 * D1) (D1 * D2) := by
    refine Mth.low_cross (by omega) (by omega) ?_
    rw [Int.add_mul, Int.add_mul]
    have t1 : p * s * (D1 * D2) = (p * D1) * (s * D2) := by ac_rfl
    have t2 : r * q * (D1 * D2) = (r * D2) * (q * D1) := by ac_rfl
    rw [t1, t2, v1, v2]
    have t3 : N1 * q * (s * D2) = N1 * D2 * (q * s) := by ac_rfl
    have t4 : N2 * s * (q * D1) = N2 * D1 * (q * s) := by ac_rfl
    rw [t3, t4]
  refine Mth.Evn.congr (g := fun k => (impl_lowest.f k (p * s + r * q) (q * s)).bind fun b => some (b.1, b.2)) (fun k => ?_) ?_
  · unfold impl_frac_plus.f
    rw [wrap_id (x := p * s) (by omega) (by omega), wrap_id (x := r * q) (by omega) (by omega), wrap_id (x := q * s) (by omega) (by omega), wrap_id (x := p * s + r * q) (by omega) (by omega)]
  · rw [← E]
    exact (lowest_ev _ _ (by omega) (by omega) (by omega) (by omega) (by omega)).bind (Mth.Evn.now _)
/-- A sum over one denominator. -/
theorem low_sum {A B D : Int} (hD : 0 < D) : Mth.low (A * D + B * D) (D * D) = Mth.low (A + B) D := by
  have := Int.mul_pos hD hD
  refine Mth.low_cross (by omega) (by omega) ?_
  rw [← Int.add_mul, Int.mul_assoc]
/-- A table of G + 1 places. -/
def tabf {α : Type} (G : Nat) (g : Nat → α) : List α := (List.range (G + 1)).map g
theorem tabf_len {α : Type} (G : Nat) (g : Nat → α) : (tabf G g).length = G + 1 := by simp [tabf]
theorem tabf_get {α : Type} (G : Nat) (g : Nat → α) (z : α) {p : Nat} (h : p ≤ G) : (tabf G g).getD p z = g p := by
  unfold tabf
  simp [List.getD_eq_getElem?_getD, show p < G + 1 by omega]
theorem tabf_set {α : Type} (G : Nat) (g : Nat → α) (p : Nat) (v : α) : (tabf G g).set p v = tabf G (fun q => if q = p then v else g q) := by
  apply List.ext_getElem?
  intro i
  unfold tabf
  rw [List.getElem?_set]
  by_cases h : i < G + 1
  · by_cases hi : p = i
    · subst hi; simp [h]
    · simp [h, hi, show ¬ i = p from fun e => hi e.symm]
  · by_cases hi : p = i
    · subst hi; simp [h]
    · simp [h, hi]
theorem tabf_congr {α : Type} {G : Nat} {g g' : Nat → α} (h : ∀ q, q ≤ G → g q = g' q) : tabf G g = tabf G g' := by
  unfold tabf
  exact List.map_congr_left fun q hq => h q (by simp at hq; omega)
theorem tabf_rep {α : Type} (G : Nat) (v : α) : List.replicate (G + 1) v = tabf G (fun _ => v) := by
  unfold tabf
  rw [List.map_const', List.length_range]
/-- The greatest stake. -/
def bld (G p : Nat) : Nat := min p (G - p)
/-- A stake's part takes the place of the best till now: kind 0 for the stake 1, kind 1 for the greatest one, kind 2 for a greater part. -/
def upd (kd : Int) (most s : Nat) (cur part : Int) : Int := if (kd = 0 ∧ s = 1) ∨ (kd = 1 ∧ s = most) ∨ (kd = 2 ∧ part > cur) then part else cur
def fld (kd : Int) (most : Nat) (f : Nat → Int) (init : Int) : Nat → Int
  | 0 => init
  | j + 1 => upd kd most (j + 1) (fld kd most f init j) (f (j + 1))
/-- The chance to be at the goal within n plays from a purse p, in parts of O to the power of n. -/
def Wn (kd H O : Int) (G : Nat) : Nat → Nat → Int
  | 0, p => if p = G then 1 else 0
  | n + 1, p => fld kd (bld G p) (fun s => H * Wn kd H O G n (p + s) + (O - H) * Wn kd H O G n (p - s)) (Wn kd H O G n p * O) (bld G p)
def prt (kd H O : Int) (G n p s : Nat) : Int := H * Wn kd H O G n (p + s) + (O - H) * Wn kd H O G n (p - s)
theorem Wn_succ (kd H O : Int) (G n p : Nat) : Wn kd H O G (n + 1) p = fld kd (bld G p) (prt kd H O G n p) (Wn kd H O G n p * O) (bld G p) := rfl
theorem fld_bd {kd : Int} {most : Nat} {f : Nat → Int} {init M : Int} (h0 : 0 ≤ init) (h1 : init ≤ M) (hf : ∀ s, 0 ≤ f s ∧ f s ≤ M) : ∀ j, 0 ≤ fld kd most f init j ∧ fld kd most f init j ≤ M
  | 0 => ⟨h0, h1⟩
  | j + 1 => by
    have ih := fld_bd (kd := kd) (most := most) h0 h1 hf j
    have := hf (j + 1)
    rw [fld, upd]
    split
    · exact this
    · exact ih
theorem prt_of {H O x y M : Int} (hH : 0 ≤ H) (hHO : H ≤ O) (x0 : 0 ≤ x) (x1 : x ≤ M) (y0 : 0 ≤ y) (y1 : y ≤ M) : 0 ≤ H * x + (O - H) * y ∧ H * x + (O - H) * y ≤ M * O := by
  have h1 := Int.mul_nonneg hH x0
  have h2 := Int.mul_nonneg (show 0 ≤ O - H by omega) y0
  have h3 := Int.mul_le_mul_of_nonneg_left x1 hH
  have h4 := Int.mul_le_mul_of_nonneg_left y1 (show 0 ≤ O - H by omega)
  have h5 : H * M + (O - H) * M = M * O := by rw [← Int.add_mul, Int.add_comm, Int.sub_add_cancel, Int.mul_comm]
  omega
theorem Wn_bd {kd H O : Int} {G : Nat} (hH : 0 ≤ H) (hHO : H ≤ O) : ∀ n p, 0 ≤ Wn kd H O G n p ∧ Wn kd H O G n p ≤ O ^ n
  | 0, p => by rw [Wn, Int.pow_zero]; split <;> omega
  | n + 1, p => by
    have ih := Wn_bd (kd := kd) (G := G) hH hHO n
    rw [Wn_succ, Int.pow_succ]
    refine fld_bd (Int.mul_nonneg (ih p).1 (by omega)) (Int.mul_le_mul_of_nonneg_right (ih p).2 (by omega)) (fun s => ?_) _
    exact prt_of hH hHO (ih _).1 (ih _).2 (ih _).1 (ih _).2
theorem prt_bd {kd H O : Int} {G : Nat} (hH : 0 ≤ H) (hHO : H ≤ O) (n p s : Nat) : 0 ≤ prt kd H O G n p s ∧ prt kd H O G n p s ≤ O ^ n * O :=
  prt_of hH hHO (Wn_bd hH hHO _ _).1 (Wn_bd hH hHO _ _).2 (Wn_bd hH hHO _ _).1 (Wn_bd hH hHO _ _).2
theorem pow6 {O : Int} (h : 1 ≤ O) (h' : O ≤ 10) {n : Nat} (hn : n ≤ 6) : 1 ≤ O ^ n ∧ O ^ n ≤ 1000000 := by
  have a := Mth.pow_pos' O h n
  have b := (Mth.pow_bd O 10 (by omega) h' n).2
  have c : (10 : Int) ^ n ≤ 10 ^ 6 := Mth.pow_le_M 10 (by omega) n 6 hn
  have d : (10 : Int) ^ 6 = 1000000 := by decide
  omega
section
variable {kd H O : Int} {G : Nat} (hH : 0 ≤ H) (hHO : H ≤ O) (hO : 1 ≤ O) (hO' : O ≤ 10) (hG1 : 1 ≤ G) (hG : G ≤ 16)
theorem skPart_eq (hH : 0 ≤ H) (hHO : H ≤ O) (hO : 1 ≤ O) (hO' : O ≤ 10) (hG : G ≤ 16) {n p s : Nat} (hn : n ≤ 5) (h1 : p + s ≤ G) (h2 : s ≤ p) : spec_skPart.f H O (tabf G (Wn kd H O G n)) p s = some (prt kd H O G n p s) := by
  have e1 : wrap64 ((p : Int) + (s : Int)) = ((p + s : Nat) : Int) := by rw [wrap_id (by omega) (by omega)]; omega
  have e2 : wrap64 ((p : Int) - (s : Int)) = ((p - s : Nat) : Int) := by rw [wrap_id (by omega) (by omega)]; omega
  have r1 : rd (tabf G (Wn kd H O G n)) ((p + s : Nat) : Int) = Wn kd H O G n (p + s) := by unfold rd; exact tabf_get G _ _ h1
  have r2 : rd (tabf G (Wn kd H O G n)) ((p - s : Nat) : Int) = Wn kd H O G n (p - s) := by unfold rd; exact tabf_get G _ _ (by omega)
  have t := pow6 hO hO' (n := n) (by omega)
  have b1 := Wn_bd (kd := kd) (G := G) hH hHO n (p + s)
  have b2 := Wn_bd (kd := kd) (G := G) hH hHO n (p - s)
  have m1 := mul8 hH (by omega) b1.1 (by omega)
  have m2 := mul8 (show 0 ≤ O - H by omega) (by omega) b2.1 (by omega)
  unfold spec_skPart.f
  rw [e1, e2, tabf_len, if_pos (by omega), if_pos (by omega), if_pos (by omega), if_pos (by omega), r1, r2, wrap_id (x := O - H) (by omega) (by omega), wrap_id (x := H * _) (by omega) (by omega), wrap_id (x := (O - H) * _) (by omega) (by omega), wrap_id (by omega) (by omega)]
  rfl
/-- The table in the making: the places below p are those of the next number of plays, at p stands v. -/
def mid (kd H O : Int) (G n p : Nat) (v : Int) : List Int := tabf G fun q => if q = p then v else if q < p then Wn kd H O G (n + 1) q else 0
theorem mid_set (n p : Nat) (v u : Int) : (mid kd H O G n p v).set p u = mid kd H O G n p u := by
  unfold mid
  rw [tabf_set]
  exact tabf_congr fun q _ => by by_cases h : q = p <;> simp [h]
theorem mid_rd {n p : Nat} (v : Int) (h : p ≤ G) : rd (mid kd H O G n p v) (p : Int) = v := by
  unfold rd mid
  rw [show ((p : Nat) : Int).toNat = p by omega, tabf_get G _ _ h]; simp
theorem mid_next (n p : Nat) : mid kd H O G n p (Wn kd H O G (n + 1) p) = mid kd H O G n (p + 1) 0 := by
  unfold mid
  refine tabf_congr fun q _ => ?_
  by_cases h : q = p
  · subst h; simp
  · by_cases h2 : q = p + 1
    · subst h2; simp; intro h; omega
    · by_cases h3 : q < p
      · simp [h, h2, h3, show q < p + 1 by omega]
      · simp [h, h2, h3, show ¬ q < p + 1 by omega]
theorem mid_last (n : Nat) : mid kd H O G n (G + 1) 0 = tabf G (Wn kd H O G (n + 1)) := by
  unfold mid
  exact tabf_congr fun q hq => by simp [show ¬ q = G + 1 by omega, show q < G + 1 by omega]
theorem mid_zero (n : Nat) : List.replicate (G + 1) (0 : Int) = mid kd H O G n 0 0 := by
  rw [tabf_rep]; unfold mid
  exact tabf_congr fun q _ => by by_cases h : q = 0 <;> simp [h]
theorem skBold_eq {p : Nat} (hG : G ≤ 16) (hp : p ≤ G) : spec_skBold.f p G = some (bld G p : Int) := by
  unfold spec_skBold.f spec_l1Least.f bld
  rw [wrap_id (by omega) (by omega)]
  by_cases h : (p : Int) < (G : Int) - (p : Int)
  · rw [if_pos h]; simp only [Option.bind_some]; congr 1; omega
  · rw [if_neg h]; simp only [Option.bind_some]; congr 1; omega
include hH hHO hO hO' hG
/-- The stakes of one purse. -/
theorem l2_ev (hkd : kd = 0 ∨ kd = 1 ∨ kd = 2) {n p : Nat} (hn : n ≤ 5) (hp : p ≤ G) (x2 : Int) {r : List Int}
    (hc : Mth.Evn (fun k => spec_skWithin.l1 k G x2 kd (tabf G (Wn kd H O G n)) (mid kd H O G n p (fld kd (bld G p) (prt kd H O G n p) (Wn kd H O G n p * O) (bld G p))) ((G + 1 : Nat) : Int) (wrap64 ((p : Int) + 1)) H O) r) :
    ∀ d j : Nat, j + d = bld G p → Mth.Evn (fun k => spec_skWithin.l2 k G x2 kd (tabf G (Wn kd H O G n)) (mid kd H O G n p (fld kd (bld G p) (prt kd H O G n p) (Wn kd H O G n p * O) j)) p (bld G p : Int) ((j + 1 : Nat) : Int) ((G + 1 : Nat) : Int) p H O) r
  | 0, j, hj => by
    have e : j = bld G p := by omega
    subst e
    refine hc.step fun k => ?_
    simp only [spec_skWithin.l2]
    rw [if_neg (by omega)]
  | d + 1, j, hj => by
    have ih := l2_ev hkd hn hp x2 hc d (j + 1) (by omega)
    have hb : bld G p ≤ p ∧ bld G p ≤ G - p := by unfold bld; omega
    have ep := skPart_eq (kd := kd) (n := n) (p := p) (s := j + 1) hH hHO hO hO' hG hn (by omega) (by omega)
    have ew : wrap64 (((j + 1 : Nat) : Int) + 1) = ((j + 1 + 1 : Nat) : Int) := by rw [wrap_id (by omega) (by omega)]; omega
    have hl (v : Int) : (p : Int) < ((mid kd H O G n p v).length : Int) := by unfold mid; rw [tabf_len]; omega
    have h0 : (0 : Int) ≤ (p : Int) := by omega
    have hpn : ((p : Nat) : Int).toNat = p := by omega
    refine ih.step fun k => ?_
    simp only [spec_skWithin.l2]
    rw [if_pos (by omega), ep]
    simp only [Option.bind_some]
    rw [fld, upd, hpn, ew]
    simp only [mid_set, mid_rd _ hp, if_pos h0, if_pos (hl _)]
    generalize fld kd (bld G p) (prt kd H O G n p) (Wn kd H O G n p * O) j = c
    generalize prt kd H O G n p (j + 1) = u
    rcases hkd with rfl | rfl | rfl
    · by_cases h1 : j + 1 = 1
      · rw [if_pos rfl, if_pos (show ((j + 1 : Nat) : Int) = 1 by omega), if_pos (.inl ⟨rfl, h1⟩)]
      · rw [if_pos rfl, if_neg (show ¬ ((j + 1 : Nat) : Int) = 1 by omega), if_neg (show ¬ (0 : Int) = 1 by decide), if_neg (show ¬ (0 : Int) = 2 by decide), if_neg (by rintro (⟨-, h⟩ | ⟨h, -⟩ | ⟨h, -⟩) <;> omega)]
    · by_cases h1 : j + 1 = bld G p
      · rw [if_neg (show ¬ (1 : Int) = 0 by decide), if_pos rfl, if_pos (show ((j + 1 : Nat) : Int) = (bld G p : Int) by omega), if_pos (.inr (.inl ⟨rfl, h1⟩))]
      · rw [if_neg (show ¬ (1 : Int) = 0 by decide), if_pos rfl, if_neg (show ¬ ((j + 1 : Nat) : Int) = (bld G p : Int) by omega), if_neg (show ¬ (1 : Int) = 2 by decide), if_neg (by rintro (⟨h, -⟩ | ⟨-, h⟩ | ⟨h, -⟩) <;> omega)]
    · by_cases h1 : u > c
      · rw [if_neg (show ¬ (2 : Int) = 0 by decide), if_neg (show ¬ (2 : Int) = 1 by decide), if_pos rfl, if_pos h1, if_pos (.inr (.inr ⟨rfl, h1⟩))]
      · rw [if_neg (show ¬ (2 : Int) = 0 by decide), if_neg (show ¬ (2 : Int) = 1 by decide), if_pos rfl, if_neg h1, if_neg (by rintro (⟨h, -⟩ | ⟨h, -⟩ | ⟨-, h⟩) <;> omega)]
/-- All purses. -/
theorem l1_ev (hkd : kd = 0 ∨ kd = 1 ∨ kd = 2) {n : Nat} (hn : n ≤ 5) (x2 : Int) {r : List Int}
    (hc : Mth.Evn (fun k => spec_skWithin.l0 k G (wrap64 (x2 - 1)) kd (tabf G (Wn kd H O G (n + 1))) H O) r) :
    ∀ d p : Nat, p + d = G + 1 → Mth.Evn (fun k => spec_skWithin.l1 k G x2 kd (tabf G (Wn kd H O G n)) (mid kd H O G n p 0) ((G + 1 : Nat) : Int) p H O) r
  | 0, p, hp => by
    have e : p = G + 1 := by omega
    subst e
    refine hc.step fun k => ?_
    simp only [spec_skWithin.l1]
    rw [if_neg (by omega), mid_last]
  | d + 1, p, hp => by
    have ih := l1_ev hkd hn x2 hc d (p + 1) (by omega)
    have ew : wrap64 ((p : Int) + 1) = ((p + 1 : Nat) : Int) := by rw [wrap_id (by omega) (by omega)]; omega
    have e0 : Wn kd H O G (n + 1) p = fld kd (bld G p) (prt kd H O G n p) (Wn kd H O G n p * O) (bld G p) := Wn_succ _ _ _ _ _ _
    rw [← mid_next, e0, ← ew] at ih
    have h2 := l2_ev hH hHO hO hO' hG hkd hn (show p ≤ G by omega) x2 ih (bld G p) 0 (by omega)
    have t := pow6 hO hO' (n := n) (by omega)
    have b := Wn_bd (kd := kd) (G := G) hH hHO n p
    have m := mul8 b.1 (by omega) (show 0 ≤ O by omega) (by omega)
    have er : rd (tabf G (Wn kd H O G n)) (p : Int) = Wn kd H O G n p := by unfold rd; rw [show ((p : Nat) : Int).toNat = p by omega]; exact tabf_get G _ _ (by omega)
    refine h2.step fun k => ?_
    simp only [spec_skWithin.l1]
    rw [if_pos (by omega), if_pos (by omega), tabf_len, if_pos (by omega), show (mid kd H O G n p 0).length = G + 1 by unfold mid; rw [tabf_len], if_pos (by omega), skBold_eq hG (by omega), er, show ((p : Nat) : Int).toNat = p by omega, wrap_id (x := Wn kd H O G n p * O) (by omega) (by omega), mid_set]
    rfl
/-- All plays. -/
theorem l0_ev (hkd : kd = 0 ∨ kd = 1 ∨ kd = 2) : ∀ d n : Nat, n + d ≤ 6 → Mth.Evn (fun k => spec_skWithin.l0 k G d kd (tabf G (Wn kd H O G n)) H O) (tabf G (Wn kd H O G (n + d)))
  | 0, n, _ => by
    refine (Mth.Evn.now _).step fun k => ?_
    simp only [spec_skWithin.l0]
    rw [if_neg (by omega)]; rfl
  | d + 1, n, h => by
    have ih := l0_ev hkd d (n + 1) (by omega)
    have ew : wrap64 (((d + 1 : Nat) : Int) - 1) = (d : Int) := by rw [wrap_id (by omega) (by omega)]; omega
    rw [← ew] at ih
    have h1 := l1_ev hH hHO hO hO' hG hkd (show n ≤ 5 by omega) ((d + 1 : Nat) : Int) ih (G + 1) 0 (by omega)
    have eg : wrap64 ((G : Int) + 1) = ((G + 1 : Nat) : Int) := by rw [wrap_id (by omega) (by omega)]; omega
    rw [show n + (d + 1) = n + 1 + d by omega]
    refine h1.step fun k => ?_
    simp only [spec_skWithin.l0]
    rw [if_pos (by omega), eg, if_pos (by omega), if_pos (by omega), show (((G + 1 : Nat) : Int)).toNat = G + 1 by omega]
    simp only [Option.bind_some, List.length_replicate]
    rw [mid_zero (kd := kd) (H := H) (O := O) n]
    rfl
theorem skWithin_ev (hkd : kd = 0 ∨ kd = 1 ∨ kd = 2) (d : Nat) (h : d ≤ 6) : Mth.Evn (fun k => spec_skWithin.f k H O G d kd) (tabf G (Wn kd H O G d)) := by
  have h0 := l0_ev hH hHO hO hO' hG hkd d 0 (by omega)
  rw [Nat.zero_add] at h0
  have eg : wrap64 ((G : Int) + 1) = ((G + 1 : Nat) : Int) := by rw [wrap_id (by omega) (by omega)]; omega
  refine Mth.Evn.congr (fun k => ?_) h0
  unfold spec_skWithin.f
  rw [eg, if_pos (by omega), if_pos (by omega), show (((G + 1 : Nat) : Int)).toNat = G + 1 by omega]
  simp only [Option.bind_some, List.length_replicate]
  rw [if_pos (by omega), if_pos (by omega), show ((G : Nat) : Int).toNat = G by omega, tabf_rep, tabf_set]
  have e : tabf G (fun q => if q = G then 1 else (fun _ => (0 : Int)) q) = tabf G (Wn kd H O G 0) := tabf_congr fun q _ => by rw [Wn]
  rw [e]
end
theorem ofToss_ev {H O : Int} (hH : 0 ≤ H) (hHO : H ≤ O) (hO : 1 ≤ O) (hO' : O ≤ 10) : Mth.Evn (fun k => impl_Coin_ofToss.f k H O 104) (Mth.low H O) ∧ Mth.Evn (fun k => impl_Coin_ofToss.f k H O 116) (Mth.low (O - H) O) := by
  have c1 := lowest_ev H O (by omega) (by omega) (by omega) (by omega) (by omega)
  have c2 := lowest_ev (O - H) O (by omega) (by omega) (by omega) (by omega) (by omega)
  constructor
  · refine Mth.Evn.congr (fun k => ?_) (c1.bind (g := fun _ b => some (b.1, b.2)) (Mth.Evn.now _))
    unfold impl_Coin_ofToss.f
    rw [if_pos rfl]
  · refine Mth.Evn.congr (fun k => ?_) (c2.bind (g := fun _ b => some (b.1, b.2)) (Mth.Evn.now _))
    unfold impl_Coin_ofToss.f
    rw [if_neg (by decide), wrap_id (x := O - H) (by omega) (by omega)]
section
variable {kd H O : Int} {G : Nat} (hH : 0 ≤ H) (hHO : H ≤ O) (hO : 1 ≤ O) (hO' : O ≤ 10) (hG1 : 1 ≤ G) (hG : G ≤ 16)
include hH hHO hO hO'
/-- Two plays behind a toss, told as fractions. -/
theorem won_ev {n : Nat} (hn : n ≤ 5) {x y : Int} (x0 : 0 ≤ x) (x1 : x ≤ O ^ n) (y0 : 0 ≤ y) (y1 : y ≤ O ^ n) :
    Mth.Evn (fun k => impl_frac_times.f k (Mth.low x (O ^ n)).1 (Mth.low x (O ^ n)).2 (Mth.low H O).1 (Mth.low H O).2) (Mth.low (H * x) (O ^ (n + 1))) ∧
    Mth.Evn (fun k => impl_frac_times.f k (Mth.low y (O ^ n)).1 (Mth.low y (O ^ n)).2 (Mth.low (O - H) O).1 (Mth.low (O - H) O).2) (Mth.low ((O - H) * y) (O ^ (n + 1))) ∧
    Mth.Evn (fun k => impl_frac_plus.f k (Mth.low (H * x) (O ^ (n + 1))).1 (Mth.low (H * x) (O ^ (n + 1))).2 (Mth.low ((O - H) * y) (O ^ (n + 1))).1 (Mth.low ((O - H) * y) (O ^ (n + 1))).2) (Mth.low (H * x + (O - H) * y) (O ^ (n + 1))) := by
  have t := pow6 hO hO' (n := n) (by omega)
  have t' := pow6 hO hO' (n := n + 1) (by omega)
  have z1 : x ≤ 100000000 := by omega
  have z2 : y ≤ 100000000 := by omega
  have z3 : O ^ n ≤ 100000000 := by omega
  have z4 : 0 < O ^ n := by omega
  have z5 : O ^ (n + 1) ≤ 100000000 := by omega
  have z6 : 0 < O ^ (n + 1) := by omega
  have z7 : H ≤ 100000000 := by omega
  have z8 : O ≤ 100000000 := by omega
  have z9 : 0 < O := by omega
  have z10 : 0 ≤ O - H := by omega
  have z11 : O - H ≤ 100000000 := by omega
  have m1 := Int.mul_nonneg hH x0
  have m2 := Int.mul_nonneg z10 y0
  have m3 : H * x ≤ 100000000 := by
    have := Int.mul_le_mul (show H ≤ 10 by omega) (show x ≤ 1000000 by omega) x0 (by omega)
    omega
  have m4 : (O - H) * y ≤ 100000000 := by
    have := Int.mul_le_mul (show O - H ≤ 10 by omega) (show y ≤ 1000000 by omega) y0 (by omega)
    omega
  have c1 := times_ev x0 z1 z4 z3 hH z7 z9 z8
  have c2 := times_ev y0 z2 z4 z3 z10 z11 z9 z8
  have c3 := plus_ev m1 m3 z6 z5 m2 m4 z6 z5
  rw [low_sum z6] at c3
  rw [← Int.pow_succ, Int.mul_comm x H] at c1
  rw [← Int.pow_succ, Int.mul_comm y (O - H)] at c2
  exact ⟨c1, c2, c3⟩
theorem isMore_eq {n : Nat} (hn : n ≤ 6) {x y : Int} (x0 : 0 ≤ x) (x1 : x ≤ O ^ n) (y0 : 0 ≤ y) (y1 : y ≤ O ^ n) :
    impl_frac_isMore.f (Mth.low x (O ^ n)).1 (Mth.low x (O ^ n)).2 (Mth.low y (O ^ n)).1 (Mth.low y (O ^ n)).2 = some (decide (x > y)) := by
  have _u := And.intro hH hHO
  have t := pow6 hO hO' (n := n) (by omega)
  obtain ⟨⟨a0, a1⟩, a2, a3⟩ := low_bd x0 (show 0 < O ^ n by omega)
  obtain ⟨⟨b0, b1⟩, b2, b3⟩ := low_bd y0 (show 0 < O ^ n by omega)
  have v1 := Mth.low_val (n := x) (d := O ^ n)
  have v2 := Mth.low_val (n := y) (d := O ^ n)
  generalize (Mth.low x (O ^ n)).1 = p at *
  generalize (Mth.low x (O ^ n)).2 = q at *
  generalize (Mth.low y (O ^ n)).1 = r at *
  generalize (Mth.low y (O ^ n)).2 = s at *
  generalize O ^ n = D at *
  have m1 := mul8 a0 (by omega) (show 0 ≤ s by omega) (by omega)
  have m2 := mul8 b0 (by omega) (show 0 ≤ q by omega) (by omega)
  unfold impl_frac_isMore.f
  rw [wrap_id (x := p * s) (by omega) (by omega), wrap_id (x := r * q) (by omega) (by omega)]
  have e1 : p * s * D = x * (q * s) := by
    rw [show p * s * D = p * D * s by ac_rfl, v1]; ac_rfl
  have e2 : r * q * D = y * (q * s) := by
    rw [show r * q * D = r * D * q by ac_rfl, v2]; ac_rfl
  have hqs := Int.mul_pos a2 b2
  have hD : 0 < D := by omega
  congr 1
  apply decide_eq_decide.2
  constructor
  · intro h
    have h1 := Int.mul_lt_mul_of_pos_right (show r * q < p * s from h) hD
    rw [e1, e2] at h1
    exact Int.lt_of_mul_lt_mul_right h1 (Int.le_of_lt hqs)
  · intro h
    have h1 := Int.mul_lt_mul_of_pos_right (show y < x from h) hqs
    rw [← e1, ← e2] at h1
    exact Int.lt_of_mul_lt_mul_right h1 (Int.le_of_lt hD)
end
theorem rdT_tabf {G : Nat} (g : Nat → S56) {p : Nat} (h : p ≤ G) : rd_T56 (tabf G g) (p : Int) = g p := by
  unfold rd_T56
  rw [show ((p : Nat) : Int).toNat = p by omega]; exact tabf_get G _ _ h
def fr (x : Int × Int) : S56 := ⟨x.1, x.2⟩
section
variable {kd H O : Int} {G : Nat} (hH : 0 ≤ H) (hHO : H ≤ O) (hO : 1 ≤ O) (hO' : O ≤ 10) (hG1 : 1 ≤ G) (hG : G ≤ 16)
include hH hHO hO hO'
/-- A stake by the table of the plays behind it. -/
theorem staked_ev {n p s : Nat} (hn : n ≤ 5) (hG : G ≤ 16) (h1 : p + s ≤ G) (h2 : s ≤ p) :
    Mth.Evn (fun k => impl_Coin_staked.f k H O (tabf G fun q => fr (Mth.low (Wn kd H O G n q) (O ^ n))) p s) (Mth.low (prt kd H O G n p s) (O ^ (n + 1))) := by
  have e1 : wrap64 ((p : Int) + (s : Int)) = ((p + s : Nat) : Int) := by rw [wrap_id (by omega) (by omega)]; omega
  have e2 : wrap64 ((p : Int) - (s : Int)) = ((p - s : Nat) : Int) := by rw [wrap_id (by omega) (by omega)]; omega
  have b1 := Wn_bd (kd := kd) (G := G) hH hHO n (p + s)
  have b2 := Wn_bd (kd := kd) (G := G) hH hHO n (p - s)
  obtain ⟨c1, c2, c3⟩ := won_ev hH hHO hO hO' hn b1.1 b1.2 b2.1 b2.2
  obtain ⟨d1, d2⟩ := ofToss_ev hH hHO hO hO'
  have g1 : (0 : Int) ≤ ((p + s : Nat) : Int) := by omega
  have g2 : ((p + s : Nat) : Int) < ((G + 1 : Nat) : Int) := by omega
  have g3 : (0 : Int) ≤ ((p - s : Nat) : Int) := by omega
  have g4 : ((p - s : Nat) : Int) < ((G + 1 : Nat) : Int) := by omega
  have g5 : p - s ≤ G := by omega
  simp only [impl_Coin_staked.f, e1, e2, tabf_len, if_pos g1, if_pos g2, if_pos g3, if_pos g4, rdT_tabf _ h1, rdT_tabf _ g5, fr]
  refine d1.bind ?_
  refine c1.bind ?_
  refine d2.bind ?_
  refine c2.bind ?_
  refine c3.bind ?_
  exact Mth.Evn.now _
end
theorem bold_eq {G p : Nat} (hG : G ≤ 16) (hp : p ≤ G) : impl_Stakes_bold.f p G = some (bld G p : Int) := by
  unfold impl_Stakes_bold.f bld mn
  rw [wrap_id (by omega) (by omega)]
  congr 1
  split <;> omega
/-- The stakes from 1 to m. -/
def upto (m : Nat) : List Int := (List.range m).map fun j => ((j + 1 : Nat) : Int)
theorem upto_succ (m : Nat) : upto (m + 1) = upto m ++ [((m + 1 : Nat) : Int)] := by
  unfold upto; rw [List.range_succ, List.map_append]; rfl
theorem upto_len (m : Nat) : (upto m).length = m := by simp [upto]
theorem upto_rd {m j : Nat} (h : j < m) : rd (upto m) (j : Int) = ((j + 1 : Nat) : Int) := by
  unfold rd upto
  rw [show ((j : Nat) : Int).toNat = j by omega]
  simp [List.getD_eq_getElem?_getD, h]
theorem freely_l0 {G p : Nat} (hG : G ≤ 16) (hp : p ≤ G) : ∀ d j : Nat, j + d = bld G p → Mth.Evn (fun k => impl_freely.l0 k (upto j) ((j + 1 : Nat) : Int) p G) (upto (bld G p))
  | 0, j, h => by
    have e : j = bld G p := by omega
    subst e
    refine (Mth.Evn.now _).step fun k => ?_
    simp only [impl_freely.l0]
    rw [bold_eq hG hp]
    simp only [Option.bind_some]
    rw [if_neg (by omega)]
  | d + 1, j, h => by
    have ih := freely_l0 hG hp d (j + 1) (by omega)
    have hb : bld G p ≤ p := by unfold bld; omega
    have ew : wrap64 (((j + 1 : Nat) : Int) + 1) = ((j + 1 + 1 : Nat) : Int) := by rw [wrap_id (by omega) (by omega)]; omega
    refine ih.step fun k => ?_
    simp only [impl_freely.l0]
    rw [bold_eq hG hp]
    simp only [Option.bind_some]
    rw [if_pos (by omega), upto_len, if_pos (by omega), ew, upto_succ]
theorem freely_ev {G p : Nat} (hG : G ≤ 16) (hp : p ≤ G) : Mth.Evn (fun k => impl_freely.f k p G) (upto (bld G p)) := freely_l0 hG hp (bld G p) 0 (by omega)
/-- The table of fractions. -/
def tfr (H O : Int) (G n : Nat) : List S56 := tabf G fun q => fr (Mth.low (Wn 2 H O G n q) (O ^ n))
/-- The table of fractions in the making. -/
def midf (H O : Int) (G n p : Nat) (v : S56) : List S56 := tabf G fun q => if q = p then v else if q < p then fr (Mth.low (Wn 2 H O G (n + 1) q) (O ^ (n + 1))) else z56
section
variable {H O : Int} {G : Nat}
theorem midf_len (n p : Nat) (v : S56) : (midf H O G n p v).length = G + 1 := by unfold midf; rw [tabf_len]
theorem midf_set (n p : Nat) (v u : S56) : (midf H O G n p v).set p u = midf H O G n p u := by
  unfold midf
  rw [tabf_set]
  exact tabf_congr fun q _ => by by_cases h : q = p <;> simp [h]
theorem midf_rd {n p : Nat} (v : S56) (h : p ≤ G) : rd_T56 (midf H O G n p v) (p : Int) = v := by
  unfold midf
  rw [rdT_tabf _ h]; simp
theorem midf_next (n p : Nat) : midf H O G n p (fr (Mth.low (Wn 2 H O G (n + 1) p) (O ^ (n + 1)))) = midf H O G n (p + 1) z56 := by
  unfold midf
  refine tabf_congr fun q _ => ?_
  by_cases h : q = p
  · subst h; simp
  · by_cases h2 : q = p + 1
    · subst h2; simp; intro h; omega
    · by_cases h3 : q < p
      · simp [h, h2, h3, show q < p + 1 by omega]
      · simp [h, h2, h3, show ¬ q < p + 1 by omega]
theorem midf_last (n : Nat) : midf H O G n (G + 1) z56 = tfr H O G (n + 1) := by
  unfold midf tfr
  exact tabf_congr fun q hq => by simp [show ¬ q = G + 1 by omega, show q < G + 1 by omega]
theorem midf_zero (n : Nat) : List.replicate (G + 1) z56 = midf H O G n 0 z56 := by
  rw [tabf_rep]; unfold midf
  exact tabf_congr fun q _ => by by_cases h : q = 0 <;> simp [h]
variable (hH : 0 ≤ H) (hHO : H ≤ O) (hO : 1 ≤ O) (hO' : O ≤ 10) (hG1 : 1 ≤ G) (hG : G ≤ 16)
include hH hHO hO hO' hG
theorem l3_ev {n p : Nat} (hn : n ≤ 5) (hp : p ≤ G) (x30 x31 : Int) {r : List S56}
    (hc : Mth.Evn (fun k => impl_Coin_table.l2 k G (tfr H O G n) (midf H O G n p (fr (Mth.low (fld 2 (bld G p) (prt 2 H O G n p) (Wn 2 H O G n p * O) (bld G p)) (O ^ (n + 1))))) x30 x31 ((G + 1 : Nat) : Int) (wrap64 ((p : Int) + 1)) H O) r) :
    ∀ d j : Nat, j + d = bld G p → Mth.Evn (fun k => impl_Coin_table.l3 k G (tfr H O G n) (midf H O G n p (fr (Mth.low (fld 2 (bld G p) (prt 2 H O G n p) (Wn 2 H O G n p * O) j) (O ^ (n + 1))))) p x30 x31 ((G + 1 : Nat) : Int) p (upto (bld G p)) (bld G p : Int) j H O) r
  | 0, j, hj => by
    have e : j = bld G p := by omega
    subst e
    refine hc.step fun k => ?_
    simp only [impl_Coin_table.l3]
    rw [if_neg (by omega)]
  | d + 1, j, hj => by
    have ih := l3_ev hn hp x30 x31 hc d (j + 1) (by omega)
    have hb : bld G p ≤ p ∧ bld G p ≤ G - p := by unfold bld; omega
    have es := staked_ev (kd := 2) (n := n) (p := p) (s := j + 1) (G := G) hH hHO hO hO' hn hG (by omega) (by omega)
    have ew : wrap64 ((j : Int) + 1) = ((j + 1 : Nat) : Int) := by rw [wrap_id (by omega) (by omega)]; omega
    have pb := prt_bd (kd := 2) (G := G) hH hHO n p (j + 1)
    have wb := Wn_bd (kd := 2) (G := G) hH hHO n p
    have cb := fld_bd (kd := 2) (most := bld G p) (f := prt 2 H O G n p) (init := Wn 2 H O G n p * O) (M := O ^ (n + 1)) (Int.mul_nonneg wb.1 (by omega)) (by rw [Int.pow_succ]; exact Int.mul_le_mul_of_nonneg_right wb.2 (by omega)) (fun s => by rw [Int.pow_succ]; exact prt_bd hH hHO n p s) j
    rw [← Int.pow_succ] at pb
    have em := isMore_eq hH hHO hO hO' (n := n + 1) (by omega) pb.1 pb.2 cb.1 cb.2
    have es' : Mth.Evn (fun k => impl_Coin_staked.f k H O (tfr H O G n) p ((j + 1 : Nat) : Int)) (Mth.low (prt 2 H O G n p (j + 1)) (O ^ (n + 1))) := es
    have u1 : (j : Int) < (bld G p : Int) := by omega
    have u2 : (0 : Int) ≤ (j : Int) := by omega
    refine Mth.Evn.step (fun k => by simp only [impl_Coin_table.l3]; rw [if_pos u1, if_pos u2, upto_len, if_pos u1, upto_rd (show j < bld G p by omega), ew]) ?_
    refine es'.bind ?_
    refine Mth.Evn.congr (fun k => ?_) ih
    rw [if_pos (show (0 : Int) ≤ (p : Int) by omega), midf_len, if_pos (show (p : Int) < ((G + 1 : Nat) : Int) by omega), midf_rd _ hp]
    simp only [fr]
    rw [em]
    simp only [Option.bind_some, decide_eq_true_eq, show ((p : Nat) : Int).toNat = p by omega, midf_set]
    rw [fld, upd]
    by_cases h1 : prt 2 H O G n p (j + 1) > fld 2 (bld G p) (prt 2 H O G n p) (Wn 2 H O G n p * O) j
    · rw [if_pos h1, if_pos (.inr (.inr ⟨rfl, h1⟩))]
    · rw [if_neg h1, if_neg (by rintro (⟨h, -⟩ | ⟨h, -⟩ | ⟨-, h⟩) <;> omega)]
theorem l2t_ev {n : Nat} (hn : n ≤ 5) (x30 x31 : Int) {r : List S56}
    (hc : Mth.Evn (fun k => impl_Coin_table.l1 k G (tfr H O G (n + 1)) x30 (wrap64 (x31 + 1)) H O) r) :
    ∀ d p : Nat, p + d = G + 1 → Mth.Evn (fun k => impl_Coin_table.l2 k G (tfr H O G n) (midf H O G n p z56) x30 x31 ((G + 1 : Nat) : Int) p H O) r
  | 0, p, hp => by
    have e : p = G + 1 := by omega
    subst e
    refine hc.step fun k => ?_
    simp only [impl_Coin_table.l2]
    rw [if_neg (by omega), midf_last]
  | d + 1, p, hp => by
    have ih := l2t_ev hn x30 x31 hc d (p + 1) (by omega)
    have ew : wrap64 ((p : Int) + 1) = ((p + 1 : Nat) : Int) := by rw [wrap_id (by omega) (by omega)]; omega
    have e0 : Wn 2 H O G (n + 1) p = fld 2 (bld G p) (prt 2 H O G n p) (Wn 2 H O G n p * O) (bld G p) := Wn_succ _ _ _ _ _ _
    rw [← midf_next, e0, ← ew] at ih
    have h3 := l3_ev hH hHO hO hO' hG hn (show p ≤ G by omega) x30 x31 ih (bld G p) 0 (by omega)
    have t := pow6 hO hO' (n := n) (by omega)
    have el : Mth.low (Wn 2 H O G n p * O) (O ^ (n + 1)) = Mth.low (Wn 2 H O G n p) (O ^ n) := by
      have hp := Int.mul_pos (show 0 < O ^ n by omega) (show 0 < O by omega)
      rw [Int.pow_succ]
      exact Mth.low_cross (by omega) (by omega) (by ac_rfl)
    rw [fld, el] at h3
    have er : rd_T56 (tfr H O G n) (p : Int) = fr (Mth.low (Wn 2 H O G n p) (O ^ n)) := rdT_tabf _ (by omega)
    have u1 : (p : Int) < ((G + 1 : Nat) : Int) := by omega
    have u2 : (0 : Int) ≤ (p : Int) := by omega
    have u3 : (tfr H O G n).length = G + 1 := tabf_len _ _
    refine Mth.Evn.step (fun k => by simp only [impl_Coin_table.l2]; rw [if_pos u1, if_pos u2, u3, if_pos u1, midf_len, if_pos u1, er, show ((p : Nat) : Int).toNat = p by omega, midf_set]) ?_
    refine (freely_ev hG (show p ≤ G by omega)).bind ?_
    refine Mth.Evn.congr (fun k => ?_) h3
    rw [upto_len]; rfl
theorem l1t_ev (m : Nat) (hm : m ≤ 6) : ∀ d n : Nat, n + d = m → Mth.Evn (fun k => impl_Coin_table.l1 k G (tfr H O G n) m n H O) (tfr H O G m)
  | 0, n, h => by
    have e : n = m := by omega
    subst e
    refine (Mth.Evn.now _).step fun k => ?_
    simp only [impl_Coin_table.l1]
    rw [if_neg (by omega)]
  | d + 1, n, h => by
    have ih := l1t_ev m hm d (n + 1) (by omega)
    have ew : wrap64 ((n : Int) + 1) = ((n + 1 : Nat) : Int) := by rw [wrap_id (by omega) (by omega)]; omega
    rw [← ew] at ih
    have h2 := l2t_ev hH hHO hO hO' hG (show n ≤ 5 by omega) (m : Int) (n : Int) ih (G + 1) 0 (by omega)
    have eg : wrap64 ((G : Int) + 1) = ((G + 1 : Nat) : Int) := by rw [wrap_id (by omega) (by omega)]; omega
    refine h2.step fun k => ?_
    simp only [impl_Coin_table.l1]
    rw [if_pos (by omega), eg, if_pos (by omega), if_pos (by omega), show (((G + 1 : Nat) : Int)).toNat = G + 1 by omega]
    simp only [Option.bind_some, List.length_replicate]
    rw [midf_zero (H := H) (O := O) n]
    rfl
include hG1
theorem l0t_ev (m : Nat) (hm : m ≤ 6) : ∀ d p : Nat, p + d = G + 1 → Mth.Evn (fun k => impl_Coin_table.l0 k G m (tabf G fun q => if q < p then fr (Mth.low (Wn 2 H O G 0 q) (O ^ 0)) else z56) ((G + 1 : Nat) : Int) p H O) (tfr H O G m)
  | 0, p, hp => by
    have e : p = G + 1 := by omega
    subst e
    have h1 := l1t_ev hH hHO hO hO' hG m hm m 0 (by omega)
    have e1 : tabf G (fun q => if q < G + 1 then fr (Mth.low (Wn 2 H O G 0 q) (O ^ 0)) else z56) = tfr H O G 0 := by
      unfold tfr
      exact tabf_congr fun q hq => by simp [show q < G + 1 by omega]
    refine h1.step fun k => ?_
    simp only [impl_Coin_table.l0]
    rw [if_neg (by omega), e1]
    rfl
  | d + 1, p, hp => by
    have ih := l0t_ev m hm d (p + 1) (by omega)
    have ew : wrap64 ((p : Int) + 1) = ((p + 1 : Nat) : Int) := by rw [wrap_id (by omega) (by omega)]; omega
    have ed : Int.tdiv (p : Int) (G : Int) = if p = G then 1 else 0 := by
      rw [Int.tdiv_eq_ediv_of_nonneg (by omega)]
      by_cases h : p = G
      · subst h; rw [if_pos rfl]; exact Int.ediv_self (by omega)
      · rw [if_neg h]; exact Int.ediv_eq_zero_of_lt (by omega) (by omega)
    have e1 : Mth.low 1 1 = ((1 : Int), (1 : Int)) := by decide
    have e2 : Mth.low 0 1 = ((0 : Int), (1 : Int)) := by decide
    refine ih.step fun k => ?_
    simp only [impl_Coin_table.l0, impl_whole.f, Option.bind_some]
    rw [if_pos (by omega), if_neg (by omega), if_pos (by omega), tabf_len, if_pos (by omega), ew, ed, show ((p : Nat) : Int).toNat = p by omega, tabf_set]
    have e3 : tabf G (fun q => if q = p then (⟨wrap64 (if p = G then 1 else 0), 1⟩ : S56) else (fun q => if q < p then fr (Mth.low (Wn 2 H O G 0 q) (O ^ 0)) else z56) q) = tabf G (fun q => if q < p + 1 then fr (Mth.low (Wn 2 H O G 0 q) (O ^ 0)) else z56) := by
      refine tabf_congr fun q hq => ?_
      by_cases h : q = p
      · subst h
        have hq1 : q < q + 1 := by omega
        rw [if_pos rfl, if_pos hq1, Wn, Int.pow_zero]
        have w1 : wrap64 1 = 1 := wrap_id (by omega) (by omega)
        have w0 : wrap64 0 = 0 := wrap_id (by omega) (by omega)
        by_cases h' : q = G
        · simp only [if_pos h', e1, w1]; rfl
        · simp only [if_neg h', e2, w0]; rfl
      · rw [if_neg h]
        by_cases h' : q < p
        · rw [if_pos (by omega)]; simp only [if_pos h']
        · rw [if_neg (by omega)]; simp only [if_neg h']
    rw [e3]
theorem table_ev (m : Nat) (hm : m ≤ 6) : Mth.Evn (fun k => impl_Coin_table.f k H O G m) (tfr H O G m) := by
  have h0 := l0t_ev hH hHO hO hO' hG1 hG m hm (G + 1) 0 (by omega)
  have eg : wrap64 ((G : Int) + 1) = ((G + 1 : Nat) : Int) := by rw [wrap_id (by omega) (by omega)]; omega
  have e0 : List.replicate (G + 1) z56 = tabf G (fun q => if q < 0 then fr (Mth.low (Wn 2 H O G 0 q) (O ^ 0)) else z56) := by
    rw [tabf_rep]; exact tabf_congr fun q _ => by simp
  refine Mth.Evn.congr (fun k => ?_) h0
  unfold impl_Coin_table.f
  rw [eg, if_pos (by omega), if_pos (by omega), show (((G + 1 : Nat) : Int)).toNat = G + 1 by omega]
  simp only [Option.bind_some, List.length_replicate]
  rw [e0]
  rfl
end
theorem rdi_get (xs : List Int) (i : Int) (h : i.toNat < xs.length) : rd xs i = xs[i.toNat] := by unfold rd; rw [List.getD_eq_getElem?_getD, List.getElem?_eq_getElem h]; rfl
theorem rdi_set (xs : List Int) (i : Int) (v : Int) (h : i.toNat < xs.length) : rd (xs.set i.toNat v) i = v := by
  rw [rdi_get _ _ (by simpa using h)]; simp
theorem rdi_set_ne (xs : List Int) (i j : Int) (v : Int) (h : i.toNat ≠ j.toNat) : rd (xs.set i.toNat v) j = rd xs j := by
  unfold rd; rw [List.getD_eq_getElem?_getD, List.getD_eq_getElem?_getD, List.getElem?_set_ne h]
theorem eqIntS_ev (xs : List Int) (hl : xs.length ≤ 1048576) : Mth.Evn (fun k => laws_eqIntS.f k xs xs) true := by
  have go : ∀ (d : Nat) (i : Int), 0 ≤ i → i + d = xs.length → Mth.Evn (fun k => laws_eqIntS.l0 k xs xs i) true := by
    intro d
    induction d with
    | zero =>
      intro i h0 hi
      refine (Mth.Evn.now _).step fun k => ?_
      simp only [laws_eqIntS.l0]; rw [if_neg (by omega)]
    | succ d ih =>
      intro i h0 hi
      refine (ih (i + 1) (by omega) (by omega)).step fun k => ?_
      simp only [laws_eqIntS.l0]
      rw [if_pos (by omega), if_pos h0, if_pos (by omega), if_pos trivial, wrap_id (x := i + 1) (by omega) (by omega)]
  unfold laws_eqIntS.f
  refine Mth.Evn.congr (fun k => if_pos rfl) ?_
  exact go xs.length 0 (by omega) (by omega)
theorem markIntS_l0 : ∀ (d : Nat) (xs : List Int) (m i : Int), xs.length ≤ 1048576 → 0 ≤ i → i + d = xs.length → 0 ≤ m → m + d ≤ 4000000 →
    ∃ r : List Int, r.length = xs.length ∧ (∀ j : Int, 0 ≤ j → j < i → rd r j = rd xs j) ∧ (∀ j : Int, i ≤ j → j < xs.length → rd r j = m + (j - i)) ∧
      Mth.Evn (fun k => laws_markIntS.l0 k xs m i) (m + d, r)
  | 0, xs, m, i, hx, h0, hi, hm, hb => by
    refine ⟨xs, rfl, fun j _ _ => rfl, fun j h1 h2 => by omega, ?_⟩
    refine (Mth.Evn.now _).step fun k => ?_
    simp only [laws_markIntS.l0]; rw [if_neg (by omega)]
    simp
  | d + 1, xs, m, i, hx, h0, hi, hm, hb => by
    have hlt : i.toNat < xs.length := by omega
    obtain ⟨r, hr, hlo, hhi, hev⟩ := markIntS_l0 d (xs.set i.toNat m) (m + 1) (i + 1) (by simpa using hx) (by omega) (by simp; omega) (by omega) (by omega)
    refine ⟨r, by simpa using hr, fun j h1 h2 => ?_, fun j h1 h2 => ?_, ?_⟩
    · rw [hlo j h1 (by omega), rdi_set_ne _ _ _ _ (by omega)]
    · by_cases e : j = i
      · subst e
        rw [hlo j h0 (by omega), rdi_set _ _ _ hlt]; omega
      · rw [hhi j (by omega) (by simpa using h2)]; omega
    · rw [show m + ((d + 1 : Nat) : Int) = m + 1 + (d : Int) by omega]
      refine hev.step fun k => ?_
      simp only [laws_markIntS.l0]
      rw [if_pos (by omega), if_pos h0, wrap_id (x := m + 1) (by omega) (by omega), wrap_id (x := i + 1) (by omega) (by omega)]
theorem heldIntS_l0 (r : List Int) (m0 : Int) (hgood : ∀ j : Int, 0 ≤ j → j < r.length → rd r j = m0 + j) (hm : 0 ≤ m0) (hb : m0 + r.length ≤ 4000000) : ∀ (d : Nat) (i : Int), 0 ≤ i → i + d = r.length →
    Mth.Evn (fun k => laws_heldIntS.l0 k r (m0 + i) i) (m0 + r.length)
  | 0, i, h0, hi => by
    refine (Mth.Evn.now _).step fun k => ?_
    simp only [laws_heldIntS.l0]; rw [if_neg (by omega)]
    congr 1; omega
  | d + 1, i, h0, hi => by
    have ih := heldIntS_l0 r m0 hgood hm hb d (i + 1) (by omega) (by omega)
    refine ih.step fun k => ?_
    simp only [laws_heldIntS.l0]
    rw [if_pos (by omega), if_pos h0, hgood i h0 (by omega), if_pos rfl, wrap_id (x := m0 + i + 1) (by omega) (by omega), wrap_id (x := i + 1) (by omega) (by omega), show m0 + i + 1 = m0 + (i + 1) by omega]
theorem mark_held_int (xs : List Int) (hl : xs.length ≤ 1048576) :
    ∃ r : List Int, Mth.Evn (fun k => laws_markIntS.f k xs 1) (1 + xs.length, r) ∧ Mth.Evn (fun k => laws_heldIntS.f k r 1) (1 + xs.length) := by
  obtain ⟨r, hr, _, hhi, hev⟩ := markIntS_l0 xs.length xs 1 0 hl (by omega) (by omega) (by omega) (by omega)
  refine ⟨r, hev, ?_⟩
  have := heldIntS_l0 r 1 (fun j h1 h2 => by rw [hhi j h1 (by omega)]; omega) (by omega) (by omega) r.length 0 (by omega) (by omega)
  rw [hr] at this
  exact this
def mxs (f : Nat → Int) : Nat → Int
  | 0 => 0
  | j + 1 => if f (j + 1) > mxs f j ∨ j = 0 then f (j + 1) else mxs f j
theorem mxs_ge (f : Nat → Int) : ∀ j s : Nat, 1 ≤ s → s ≤ j → f s ≤ mxs f j
  | 0, s, h1, h2 => by omega
  | j + 1, s, h1, h2 => by
    rw [mxs]
    by_cases e : s = j + 1
    · subst e; split <;> omega
    · have ih := mxs_ge f j s h1 (by omega)
      split <;> rename_i h
      · rcases h with h | h <;> omega
      · exact ih
theorem mxs_att (f : Nat → Int) : ∀ j : Nat, 1 ≤ j → ∃ s, 1 ≤ s ∧ s ≤ j ∧ f s = mxs f j
  | 0, h => by omega
  | j + 1, _ => by
    rw [mxs]
    by_cases h : f (j + 1) > mxs f j ∨ j = 0
    · rw [if_pos h]; exact ⟨j + 1, by omega, by omega, rfl⟩
    · rw [if_neg h]
      obtain ⟨s, h1, h2, h3⟩ := mxs_att f j (by omega)
      exact ⟨s, h1, by omega, h3⟩
def outs (f : Nat → Int) (M : Int) (j : Nat) : List Int := (upto j).filter fun s => f s.toNat == M
theorem outs_succ (f : Nat → Int) (M : Int) (j : Nat) : outs f M (j + 1) = outs f M j ++ (if f (j + 1) = M then [((j + 1 : Nat) : Int)] else []) := by
  unfold outs
  rw [upto_succ, List.filter_append]
  congr 1
  have e : ((j + 1 : Nat) : Int).toNat = j + 1 := by omega
  by_cases h : f (j + 1) = M <;> simp [List.filter_cons, e, h]
theorem outs_nil {f : Nat → Int} {M : Int} : ∀ j : Nat, (∀ s, 1 ≤ s → s ≤ j → f s ≠ M) → outs f M j = []
  | 0, _ => rfl
  | j + 1, h => by
    rw [outs_succ, outs_nil j (fun s h1 h2 => h s h1 (by omega)), if_neg (h (j + 1) (by omega) (by omega))]; rfl
theorem outs_len (f : Nat → Int) (M : Int) (j : Nat) : (outs f M j).length ≤ j := by
  unfold outs
  exact Nat.le_trans (List.length_filter_le _ _) (by rw [upto_len]; omega)
theorem outs_pos {f : Nat → Int} {M : Int} : ∀ (j s : Nat), 1 ≤ s → s ≤ j → f s = M → 0 < (outs f M j).length
  | 0, s, h1, h2, _ => by omega
  | j + 1, s, h1, h2, h => by
    rw [outs_succ, List.length_append]
    by_cases e : s = j + 1
    · subst e; rw [if_pos h]; simp
    · have := outs_pos j s h1 (by omega) h
      omega
theorem low_inj {a b D : Int} (hD : 0 < D) (h1 : (Mth.low a D).1 = (Mth.low b D).1) (h2 : (Mth.low a D).2 = (Mth.low b D).2) : a = b := by
  have v1 := Mth.low_val (n := a) (d := D)
  have v2 := Mth.low_val (n := b) (d := D)
  have p := Mth.low_pos (n := b) (d := D) (by omega)
  rw [h1, h2, v2] at v1
  exact (Int.eq_of_mul_eq_mul_right (by omega) v1).symm
section
variable {H O : Int} {G : Nat}
theorem fld_init (most : Nat) (f : Nat → Int) (init : Int) : ∀ j, init ≤ fld 2 most f init j
  | 0 => Int.le_refl _
  | j + 1 => by
    have := fld_init most f init j
    rw [fld, upd]
    split <;> rename_i h
    · rcases h with ⟨h, -⟩ | ⟨h, -⟩ | ⟨-, h⟩ <;> omega
    · exact this
theorem fld_part (most : Nat) (f : Nat → Int) (init : Int) : ∀ j s, 1 ≤ s → s ≤ j → f s ≤ fld 2 most f init j
  | 0, s, _, _ => by omega
  | j + 1, s, h1, h2 => by
    rw [fld, upd]
    by_cases e : s = j + 1
    · subst e
      split <;> rename_i h
      · exact Int.le_refl _
      · have : ¬ f (j + 1) > fld 2 most f init j := fun hh => h (.inr (.inr ⟨rfl, hh⟩))
        omega
    · have ih := fld_part most f init j s h1 (by omega)
      split <;> rename_i h
      · rcases h with ⟨h, -⟩ | ⟨h, -⟩ | ⟨-, h⟩ <;> omega
      · exact ih
theorem fld_att (most : Nat) (f : Nat → Int) (init : Int) : ∀ j, fld 2 most f init j = init ∨ ∃ s, 1 ≤ s ∧ s ≤ j ∧ fld 2 most f init j = f s
  | 0 => .inl rfl
  | j + 1 => by
    rw [fld, upd]
    split
    · exact .inr ⟨j + 1, by omega, by omega, rfl⟩
    · rcases fld_att most f init j with h | ⟨s, h1, h2, h3⟩
      · exact .inl h
      · exact .inr ⟨s, h1, by omega, h3⟩
/-- One play is no worse than none. -/
theorem play (hH : 0 ≤ H) (hHO : H ≤ O) {p : Nat} (hp : 0 < p) (hpG : p < G) : ∀ n : Nat, ∃ s, 1 ≤ s ∧ s ≤ bld G p ∧ Wn 2 H O G n p * O ≤ prt 2 H O G n p s
  | 0 => by
    have hb : 1 ≤ bld G p := by unfold bld; omega
    refine ⟨1, by omega, hb, ?_⟩
    rw [Wn, if_neg (by omega), Int.zero_mul]
    exact (prt_bd hH hHO 0 p 1).1
  | n + 1 => by
    have ih := play hH hHO hp hpG n
    have e0 : Wn 2 H O G (n + 1) p = fld 2 (bld G p) (prt 2 H O G n p) (Wn 2 H O G n p * O) (bld G p) := Wn_succ _ _ _ _ _ _
    have key : ∃ s, 1 ≤ s ∧ s ≤ bld G p ∧ Wn 2 H O G (n + 1) p ≤ prt 2 H O G n p s := by
      rcases fld_att (bld G p) (prt 2 H O G n p) (Wn 2 H O G n p * O) (bld G p) with h | ⟨s, h1, h2, h3⟩
      · obtain ⟨s, h1, h2, h3⟩ := ih
        exact ⟨s, h1, h2, by rw [e0, h]; exact h3⟩
      · exact ⟨s, h1, h2, by rw [e0, h3]; exact Int.le_refl _⟩
    obtain ⟨s, h1, h2, h3⟩ := key
    refine ⟨s, h1, h2, Int.le_trans (Int.mul_le_mul_of_nonneg_right h3 (by omega)) ?_⟩
    have mono (q : Nat) : Wn 2 H O G n q * O ≤ Wn 2 H O G (n + 1) q := by rw [Wn_succ]; exact fld_init _ _ _ _
    unfold prt
    rw [Int.add_mul, Int.mul_assoc, Int.mul_assoc]
    exact Int.add_le_add (Int.mul_le_mul_of_nonneg_left (mono _) hH) (Int.mul_le_mul_of_nonneg_left (mono _) (by omega))
theorem best_is (hH : 0 ≤ H) (hHO : H ≤ O) {p : Nat} (hp : 0 < p) (hpG : p < G) (n : Nat) : Wn 2 H O G (n + 1) p = mxs (prt 2 H O G n p) (bld G p) := by
  have hb : 1 ≤ bld G p := by unfold bld; omega
  have e0 : Wn 2 H O G (n + 1) p = fld 2 (bld G p) (prt 2 H O G n p) (Wn 2 H O G n p * O) (bld G p) := Wn_succ _ _ _ _ _ _
  obtain ⟨s, h1, h2, h3⟩ := mxs_att (prt 2 H O G n p) (bld G p) hb
  apply Int.le_antisymm
  · rw [e0]
    rcases fld_att (bld G p) (prt 2 H O G n p) (Wn 2 H O G n p * O) (bld G p) with h | ⟨s, h1, h2, h3⟩
    · obtain ⟨s, h1, h2, h3⟩ := play hH hHO hp hpG n
      rw [h]
      exact Int.le_trans h3 (mxs_ge _ _ s h1 h2)
    · rw [h3]; exact mxs_ge _ _ s h1 h2
  · rw [e0, ← h3]
    exact fld_part _ _ _ _ s h1 h2
variable (hH : 0 ≤ H) (hHO : H ≤ O) (hO : 1 ≤ O) (hO' : O ≤ 10) (hG1 : 1 ≤ G) (hG : G ≤ 16)
include hH hHO hO hO' hG
theorem specBest_ev {n p : Nat} (hn : n ≤ 5) (hp : p ≤ G) : ∀ d j : Nat, j + d = bld G p →
    Mth.Evn (fun k => spec_BestStakes.l0 k (tabf G (Wn 2 H O G n)) (mxs (prt 2 H O G n p) j) (outs (prt 2 H O G n p) (mxs (prt 2 H O G n p) j) j) ((j + 1 : Nat) : Int) H O p G) (outs (prt 2 H O G n p) (mxs (prt 2 H O G n p) (bld G p)) (bld G p), true)
  | 0, j, hj => by
    have e : j = bld G p := by omega
    subst e
    refine (Mth.Evn.now _).step fun k => ?_
    simp only [spec_BestStakes.l0, skBold_eq hG hp, Option.bind_some]
    rw [if_neg (by omega)]
  | d + 1, j, hj => by
    have ih := specBest_ev hn hp d (j + 1) (by omega)
    have hb : bld G p ≤ p ∧ bld G p ≤ G - p := by unfold bld; omega
    have ep := skPart_eq (kd := 2) (n := n) (p := p) (s := j + 1) hH hHO hO hO' hG hn (by omega) (by omega)
    have ew : wrap64 (((j + 1 : Nat) : Int) + 1) = ((j + 1 + 1 : Nat) : Int) := by rw [wrap_id (by omega) (by omega)]; omega
    have hle : ((j + 1 : Nat) : Int) ≤ (bld G p : Int) := by omega
    have hol := outs_len (prt 2 H O G n p) (mxs (prt 2 H O G n p) j) j
    have hlt : (outs (prt 2 H O G n p) (mxs (prt 2 H O G n p) j) j).length < 17592186044416 := by omega
    have hatt := mxs_att (prt 2 H O G n p) j
    have hge := mxs_ge (prt 2 H O G n p) j
    have hpos := outs_pos (f := prt 2 H O G n p) (M := mxs (prt 2 H O G n p) j) j
    rw [outs_succ, mxs] at ih
    generalize hf : prt 2 H O G n p = f at *
    generalize hm : mxs f j = m at *
    by_cases c : f (j + 1) > m ∨ j = 0
    · rw [if_pos c] at ih
      have en : outs f (f (j + 1)) j = [] := outs_nil j fun s h1 h2 he => by
        have := hge s h1 h2
        rcases c with c | c <;> omega
      rw [en, if_pos rfl] at ih
      have i2 : Mth.Evn (fun k => spec_BestStakes.j2 k (tabf G (Wn 2 H O G n)) m (outs f m j) ((j + 1 : Nat) : Int) (f (j + 1)) true H O p G) (outs f (mxs f (bld G p)) (bld G p), true) := by
        refine ih.step fun k => ?_
        simp only [spec_BestStakes.j2]
        simp only [if_true]
        rw [if_pos (by decide), ew]
      refine i2.step fun k => ?_
      simp only [spec_BestStakes.l0, skBold_eq hG hp, Option.bind_some, if_pos hle, ep]
      by_cases c1 : f (j + 1) > m
      · rw [if_pos c1]
      · have hj0 : j = 0 := by rcases c with c | c <;> omega
        rw [if_neg c1]
        have e0 : ((outs f m j).length : Int) = 0 := by omega
        rw [e0]; rfl
    · rw [if_neg c] at ih
      have hj1 : 1 ≤ j := by omega
      obtain ⟨s, h1, h2, h3⟩ := hatt hj1
      have hp0 := hpos s h1 h2 h3
      have i2 : Mth.Evn (fun k => spec_BestStakes.j2 k (tabf G (Wn 2 H O G n)) m (outs f m j) ((j + 1 : Nat) : Int) (f (j + 1)) false H O p G) (outs f (mxs f (bld G p)) (bld G p), true) := by
        refine ih.step fun k => ?_
        simp only [spec_BestStakes.j2]
        rw [if_neg (by decide), ew]
        by_cases c2 : f (j + 1) = m
        · rw [if_pos c2, if_pos hlt, if_pos c2]
        · rw [if_neg c2, if_neg c2, List.append_nil]
      refine i2.step fun k => ?_
      simp only [spec_BestStakes.l0, skBold_eq hG hp, Option.bind_some, if_pos hle, ep]
      rw [if_neg (fun h => c (.inl h))]
      have e0 : (((outs f m j).length : Int) == 0) = false := by
        have : ¬ ((outs f m j).length : Int) = 0 := by omega
        simpa using this
      rw [e0]
theorem implBest_ev {n p : Nat} (hn : n ≤ 5) (hp : p ≤ G) (M : Int) : ∀ d j : Nat, j + d = bld G p →
    Mth.Evn (fun k => impl_BestStakes.l0 k (tfr H O G n) (outs (prt 2 H O G n p) M j) (upto (bld G p)) (bld G p : Int) j H O p G (Mth.low M (O ^ (n + 1))).1 (Mth.low M (O ^ (n + 1))).2) (outs (prt 2 H O G n p) M (bld G p), true)
  | 0, j, hj => by
    have e : j = bld G p := by omega
    subst e
    refine (Mth.Evn.now _).step fun k => ?_
    simp only [impl_BestStakes.l0]
    rw [if_neg (by omega)]
  | d + 1, j, hj => by
    have ih := implBest_ev hn hp M d (j + 1) (by omega)
    have hb : bld G p ≤ p ∧ bld G p ≤ G - p := by unfold bld; omega
    have es : Mth.Evn (fun k => impl_Coin_staked.f k H O (tfr H O G n) p ((j + 1 : Nat) : Int)) (Mth.low (prt 2 H O G n p (j + 1)) (O ^ (n + 1))) := staked_ev (kd := 2) (n := n) (p := p) (s := j + 1) (G := G) hH hHO hO hO' hn hG (by omega) (by omega)
    have ew : wrap64 ((j : Int) + 1) = ((j + 1 : Nat) : Int) := by rw [wrap_id (by omega) (by omega)]; omega
    have u1 : (j : Int) < (bld G p : Int) := by omega
    have u2 : (0 : Int) ≤ (j : Int) := by omega
    have t := pow6 hO hO' (n := n + 1) (by omega)
    have hol := outs_len (prt 2 H O G n p) M j
    have hlt : (outs (prt 2 H O G n p) M j).length < 17592186044416 := by omega
    rw [outs_succ] at ih
    refine Mth.Evn.step (fun k => by simp only [impl_BestStakes.l0]; rw [if_pos u1, if_pos u2, upto_len, if_pos u1, upto_rd (show j < bld G p by omega), ew]) ?_
    refine es.bind ?_
    refine Mth.Evn.congr (fun k => ?_) ih
    by_cases c : prt 2 H O G n p (j + 1) = M
    · rw [if_pos c, c]
      simp only [beq_self_eq_true, Bool.and_self, if_true]
      rw [if_pos hlt]
    · have hn : ¬ ((Mth.low (prt 2 H O G n p (j + 1)) (O ^ (n + 1))).1 == (Mth.low M (O ^ (n + 1))).1 && ((Mth.low (prt 2 H O G n p (j + 1)) (O ^ (n + 1))).2 == (Mth.low M (O ^ (n + 1))).2)) = true := by
        intro h
        simp only [Bool.and_eq_true, beq_iff_eq] at h
        exact c (low_inj (show 0 < O ^ (n + 1) by omega) h.1 h.2)
      rw [if_neg c, if_neg hn, List.append_nil]
end
theorem holds (a0_0 : Int) (a0_1 : Int) (a1_0 : Int) (a1_1 : Int) (a2 : Int) (w0_0 : (Lit.int .i64 a0_0).wf = true) (w0_1 : (Lit.int .i64 a0_1).wf = true) (w1_0 : (Lit.int .i64 a1_0).wf = true) (w1_1 : (Lit.int .i64 a1_1).wf = true) (w2 : (Lit.int .i64 a2).wf = true) : ∃ k, laws_FnExactBestStakes.f k a0_0 a0_1 a1_0 a1_1 a2 = some true := by
  have hE : Mth.Evn (fun k => laws_FnExactBestStakes.f k a0_0 a0_1 a1_0 a1_1 a2) true := by
    have core : ∃ (L : List Int) (b : Bool), L.length ≤ 100 ∧ Mth.Evn (fun k => spec_BestStakes.f k a0_0 a0_1 a1_0 a1_1 a2) (L, b) ∧ Mth.Evn (fun k => impl_BestStakes.f k a0_0 a0_1 a1_0 a1_1 a2) (L, b) := by
      by_cases h : ((((2 ≤ a0_1 ∧ a0_1 ≤ 10) ∧ (1 ≤ a0_0 ∧ a0_0 ≤ a0_1 - 1)) ∧ ((1 ≤ a1_1 ∧ a1_1 ≤ 16) ∧ (0 ≤ a1_0 ∧ a1_0 ≤ a1_1))) ∧ 0 ≤ a2 ∧ a2 ≤ 6) ∧ 1 ≤ a2 ∧ 1 ≤ a1_0 ∧ a1_0 < a1_1
      · obtain ⟨⟨⟨⟨⟨o1, o2⟩, h1, h2⟩, ⟨g1, g2⟩, p1, p2⟩, n1, n2⟩, n3, p3, p4⟩ := h
        obtain ⟨n, rfl⟩ : ∃ m : Nat, a2 = ((m + 1 : Nat) : Int) := ⟨a2.toNat - 1, by omega⟩
        obtain ⟨G, rfl⟩ : ∃ m : Nat, a1_1 = (m : Int) := ⟨a1_1.toNat, by omega⟩
        obtain ⟨p, rfl⟩ : ∃ m : Nat, a1_0 = (m : Int) := ⟨a1_0.toNat, by omega⟩
        have hpG : p ≤ G := by omega
        have hn5 : n ≤ 5 := by omega
        have hG16 : G ≤ 16 := by omega
        have hG1 : 1 ≤ G := by omega
        have hb : 1 ≤ bld G p ∧ bld G p ≤ 16 := by unfold bld; omega
        have H0 : 0 ≤ a0_0 := by omega
        have HO : a0_0 ≤ a0_1 := by omega
        have O1 : 1 ≤ a0_1 := by omega
        have c1 : (2 ≤ a0_1 ∧ a0_1 ≤ 10) ∧ 1 ≤ a0_0 ∧ a0_0 ≤ a0_1 - 1 := ⟨⟨o1, o2⟩, h1, h2⟩
        have c2 : (1 ≤ (G : Int) ∧ (G : Int) ≤ 16) ∧ 0 ≤ (p : Int) ∧ (p : Int) ≤ (G : Int) := ⟨⟨g1, g2⟩, p1, p2⟩
        have c3 : 0 ≤ ((n + 1 : Nat) : Int) ∧ ((n + 1 : Nat) : Int) ≤ 6 := ⟨n1, n2⟩
        have ew : wrap64 (((n + 1 : Nat) : Int) - 1) = (n : Int) := by rw [wrap_id (by omega) (by omega)]; omega
        have eM := best_is (G := G) H0 HO (show 0 < p by omega) (show p < G by omega) n
        refine ⟨outs (prt 2 a0_0 a0_1 G n p) (mxs (prt 2 a0_0 a0_1 G n p) (bld G p)) (bld G p), true, ?_, ?_, ?_⟩
        · have := outs_len (prt 2 a0_0 a0_1 G n p) (mxs (prt 2 a0_0 a0_1 G n p) (bld G p)) (bld G p)
          omega
        · have s1 := specBest_ev H0 HO O1 o2 hG16 hn5 hpG (bld G p) 0 (by omega)
          have w1 := skWithin_ev (kd := 2) H0 HO O1 o2 hG16 (.inr (.inr rfl)) n (by omega)
          have j0 : Mth.Evn (fun k => spec_BestStakes.j0 k ((n + 1 : Nat) : Int) false a0_0 a0_1 p G) (outs (prt 2 a0_0 a0_1 G n p) (mxs (prt 2 a0_0 a0_1 G n p) (bld G p)) (bld G p), true) := by
            refine Mth.Evn.step (fun k => by simp only [spec_BestStakes.j0]; rw [if_neg (by decide), ew]) ?_
            refine w1.bind ?_
            exact s1
          have e0 : ((bld G p : Int) == 0) = false := by
            have : ¬ (bld G p : Int) = 0 := by omega
            simpa using this
          refine Mth.Evn.congr (fun k => ?_) j0
          simp only [spec_BestStakes.f, spec_skPlays.f, spec_skAsked.f, ptCoin_eq, skGood_eq, l1In_eq, Option.bind_some, decide_eq_true_eq, if_pos c1, decide_eq_true c2, decide_eq_true c3, if_true, skBold_eq hG16 hpG, e0]
          rw [if_neg (by omega)]
        · have s1 := implBest_ev H0 HO O1 o2 hG16 hn5 hpG (Wn 2 a0_0 a0_1 G (n + 1) p) (bld G p) 0 (by omega)
          rw [eM] at s1
          have t1 := table_ev H0 HO O1 o2 hG1 hG16 (n + 1) (by omega)
          have t2 := table_ev H0 HO O1 o2 hG1 hG16 n (by omega)
          have f1 := freely_ev hG16 hpG
          have er : rd_T56 (tfr a0_0 a0_1 G (n + 1)) (p : Int) = fr (Mth.low (Wn 2 a0_0 a0_1 G (n + 1) p) (a0_1 ^ (n + 1))) := rdT_tabf _ hpG
          have el : (tfr a0_0 a0_1 G (n + 1)).length = G + 1 := tabf_len _ _
          have hlt : (p : Int) < ((G + 1 : Nat) : Int) := by omega
          have j0 : Mth.Evn (fun k => impl_BestStakes.j0 k ((n + 1 : Nat) : Int) false a0_0 a0_1 p G) (outs (prt 2 a0_0 a0_1 G n p) (mxs (prt 2 a0_0 a0_1 G n p) (bld G p)) (bld G p), true) := by
            refine Mth.Evn.step (fun k => by simp only [impl_BestStakes.j0]; rw [if_neg (by decide), ew]) ?_
            refine t1.bind ?_
            refine Mth.Evn.congr (fun k => by rw [if_pos p1, el, if_pos hlt, er]) ?_
            refine t2.bind ?_
            refine f1.bind ?_
            refine Mth.Evn.congr (fun k => ?_) s1
            rw [upto_len, eM]; rfl
          have e0 : (((n + 1 : Nat) : Int) == 0) = false := by
            have : ¬ ((n + 1 : Nat) : Int) = 0 := by omega
            simpa using this
          have e1 : ((p : Int) == (G : Int)) = false := by
            have : ¬ (p : Int) = (G : Int) := by omega
            simpa using this
          have e2 : ¬ (p : Int) = 0 := by omega
          refine Mth.Evn.congr (fun k => ?_) j0
          simp only [impl_BestStakes.f, impl_areWithin.f, impl_Stakes_isOver.f, IsCoin_eq, AreStakes_eq, within_eq, Option.bind_some, decide_eq_true_eq, if_pos c1, if_pos c2, decide_eq_true c3, if_true, if_neg e2, e1, e0]
          simp
      · refine ⟨[], false, by simp, ?_, ?_⟩
        · have j0 : Mth.Evn (fun k => spec_BestStakes.j0 k a2 true a0_0 a0_1 a1_0 a1_1) ([], false) := by
            refine Mth.Evn.step (g := fun _ => some ([], false)) (fun k => by simp only [spec_BestStakes.j0, if_true]) ?_
            exact Mth.Evn.now _
          refine Mth.Evn.congr (fun k => ?_) j0
          simp only [spec_BestStakes.f, spec_skPlays.f, spec_skAsked.f, ptCoin_eq, skGood_eq, l1In_eq, Option.bind_some, decide_eq_true_eq]
          by_cases c1 : (2 ≤ a0_1 ∧ a0_1 ≤ 10) ∧ 1 ≤ a0_0 ∧ a0_0 ≤ a0_1 - 1
          · by_cases c2 : (1 ≤ a1_1 ∧ a1_1 ≤ 16) ∧ 0 ≤ a1_0 ∧ a1_0 ≤ a1_1
            · by_cases c3 : 0 ≤ a2 ∧ a2 ≤ 6
              · by_cases c4 : a2 = 0
                · simp [c1, c2, c4]
                · obtain ⟨G, rfl⟩ : ∃ m : Nat, a1_1 = (m : Int) := ⟨a1_1.toNat, by omega⟩
                  obtain ⟨p, rfl⟩ : ∃ m : Nat, a1_0 = (m : Int) := ⟨a1_0.toNat, by omega⟩
                  have hpG : p ≤ G := by omega
                  have hG16 : G ≤ 16 := by omega
                  have hz : p = 0 ∨ p = G := by
                    rcases Nat.eq_zero_or_pos p with h0 | h0
                    · exact .inl h0
                    · rcases Nat.lt_or_ge p G with h1 | h1
                      · exact absurd ⟨⟨⟨c1, c2⟩, c3⟩, by omega, by omega, by omega⟩ h
                      · exact .inr (by omega)
                  have hb : bld G p = 0 := by unfold bld; omega
                  simp only [if_pos c1, decide_eq_true c2, decide_eq_true c3, Option.bind_some, if_true, if_neg c4, skBold_eq hG16 hpG, hb]
                  rfl
              · simp [c1, c2, c3]
            · simp [c1, c2]
          · simp [c1]
        · have j0 : Mth.Evn (fun k => impl_BestStakes.j0 k a2 true a0_0 a0_1 a1_0 a1_1) ([], false) := by
            refine Mth.Evn.step (g := fun _ => some ([], false)) (fun k => by simp only [impl_BestStakes.j0, if_true]) ?_
            exact Mth.Evn.now _
          refine Mth.Evn.congr (fun k => ?_) j0
          simp only [impl_BestStakes.f, impl_areWithin.f, impl_Stakes_isOver.f, IsCoin_eq, AreStakes_eq, within_eq, Option.bind_some, decide_eq_true_eq]
          by_cases c1 : (2 ≤ a0_1 ∧ a0_1 ≤ 10) ∧ 1 ≤ a0_0 ∧ a0_0 ≤ a0_1 - 1
          · by_cases c2 : (1 ≤ a1_1 ∧ a1_1 ≤ 16) ∧ 0 ≤ a1_0 ∧ a1_0 ≤ a1_1
            · by_cases c3 : 0 ≤ a2 ∧ a2 ≤ 6
              · by_cases c4 : a1_0 = 0
                · simp only [if_pos c1, if_pos c2, decide_eq_true c3, if_true, if_pos c4, Option.bind_some]
                · by_cases c5 : a1_0 = a1_1
                  · have e1 : (a1_0 == a1_1) = true := by simpa using c5
                    simp only [if_pos c1, if_pos c2, decide_eq_true c3, if_true, if_neg c4, Option.bind_some, e1]
                  · have c6 : a2 = 0 := by
                      rcases Int.lt_or_le 0 a2 with h1 | h1
                      · exact absurd ⟨⟨⟨c1, c2⟩, c3⟩, by omega, by omega, by omega⟩ h
                      · omega
                    have e1 : (a1_0 == a1_1) = false := by simpa using c5
                    simp only [if_pos c1, if_pos c2, decide_eq_true c3, if_true, if_neg c4, Option.bind_some, e1, c6]
                    rfl
              · simp [c1, c2, c3]
            · simp [c1, c2]
          · simp [c1]
    obtain ⟨L, b, hL, hs, hi⟩ := core
    have he := eqIntS_ev L (by omega)
    obtain ⟨r2, hm2, hh2⟩ := mark_held_int L (by omega)
    have e1 : (b != b) = false := by simp
    simp only [laws_FnExactBestStakes.f, laws_toCoin.f, laws_toStakes.f, Option.bind_some]
    refine hs.bind ?_
    refine hi.bind ?_
    refine he.bind ?_
    refine Mth.Evn.congr (fun k => if_pos rfl) ?_
    simp only [e1]
    refine Mth.Evn.step (fun k => by simp only [laws_FnExactBestStakes.j0]; rw [if_neg (by simp)]) ?_
    refine hm2.bind ?_
    refine hh2.bind ?_
    refine Mth.Evn.congr (fun k => (if_neg (by omega)).trans (if_pos rfl)) ?_
    simp only [laws_toCoin.f, laws_toStakes.f, Option.bind_some]
    refine hi.bind ?_
    refine he.bind ?_
    refine Mth.Evn.congr (fun k => if_pos rfl) ?_
    simp only [e1]
    refine Mth.Evn.step (fun k => by simp only [laws_FnExactBestStakes.j1]; rw [if_neg (by simp)]) ?_
    refine hh2.bind ?_
    refine Mth.Evn.congr (fun k => (if_neg (by omega)).trans (if_pos rfl)) ?_
    exact Mth.Evn.now _
  exact hE.get
end Go.Proofs.Ytkcpmdkjhpbmfaa.PureFnExactBestStakes
