/- The pure statement of FnExactDoesFit. No condition. -/
import Derived.Test.YtjcilclfgghfhaaQFnExactDoesFitx7
import Derived.Test.YtjcilclfgghfhaaMath
import Derived.OpenShut
namespace Go.Proofs.Ytjcilclfgghfhaa.PureFnExactDoesFit
open Go Go.RowKit Go.Proofs.Ytjcilclfgghfhaa.QFnExactDoesFit Go.Proofs.YtjcilclfgghfhaaW.PrintWords Go.Proofs.YtjcilclfgghfhaaW.PrintLast Go.Proofs.YtjcilclfgghfhaaW.PrintMore
set_option linter.unusedVariables false
set_option linter.unusedSimpArgs false

theorem wrap_id {x : Int} (h : -9223372036854775808 ≤ x) (h' : x ≤ 9223372036854775807) : wrap64 x = x := by unfold wrap64; omega
theorem ite_dec (p q : Prop) [Decidable p] [Decidable q] : (if decide p = true then some (decide q) else some false) = some (decide (p ∧ q)) := by
  by_cases h : p <;> simp [h]
theorem some_dec {p q : Prop} [Decidable p] [Decidable q] (h : p ↔ q) : some (decide p) = some (decide q) := by rw [decide_eq_decide.2 h]
theorem l1In_eq (a b c : Int) : spec_l1In.f a b c = some (decide (b ≤ a ∧ a ≤ c)) := by
  unfold spec_l1In.f
  by_cases h : a ≥ b
  · rw [if_pos h]; simp [show b ≤ a from h]
  · rw [if_neg h]; simp; omega
theorem within_eq (a b c : Int) : impl_within.f a b c = some (decide (b ≤ a ∧ a ≤ c)) := by
  unfold impl_within.f
  by_cases h : a ≥ b
  · rw [if_pos h]; simp [show b ≤ a from h]
  · rw [if_neg h]; simp; omega
theorem cnGood_eq (a b c : Int) : spec_cnGood.f a b c = some (decide ((1 ≤ c ∧ c ≤ 10) ∧ (0 ≤ a ∧ a ≤ c) ∧ (0 ≤ b ∧ b ≤ c))) := by
  unfold spec_cnGood.f; simp only [l1In_eq, Option.bind_some]
  by_cases h : 1 ≤ c ∧ c ≤ 10 <;> by_cases h2 : 0 ≤ a ∧ a ≤ c <;> simp [h, h2]
theorem IsChain_eq (a b c : Int) : impl_IsChain.f a b c = some (decide ((1 ≤ c ∧ c ≤ 10) ∧ (0 ≤ a ∧ a ≤ c) ∧ (0 ≤ b ∧ b ≤ c))) := by
  unfold impl_IsChain.f; simp only [within_eq, Option.bind_some]
  by_cases h : 1 ≤ c ∧ c ≤ 10 <;> by_cases h2 : 0 ≤ a ∧ a ≤ c <;> simp [h, h2]
theorem cnLow_l0 (x0 x1 : Int) (n : Nat) : ∀ (k : Nat) (a b : Int), 0 ≤ a → 0 ≤ b → b.toNat ≤ n → n < k → Int.gcd a b ≠ 0 →
    spec_cnLow.l0 k x0 x1 a b = some (wrap64 (Int.tdiv x0 (Int.gcd a b)), wrap64 (Int.tdiv x1 (Int.gcd a b))) := by
  induction n with
  | zero =>
    intro k a b ha hb hn hk hg
    obtain ⟨k, rfl⟩ : ∃ m, k = m + 1 := ⟨k - 1, by omega⟩
    obtain rfl : b = 0 := by omega
    have e : ((Int.gcd a 0 : Nat) : Int) = a := by rw [Int.gcd_zero_right]; omega
    have h0 : a ≠ 0 := by intro h; subst h; exact hg rfl
    simp only [spec_cnLow.l0]
    rw [if_neg (by omega), if_neg h0, e]
  | succ n ih =>
    intro k a b ha hb hn hk hg
    obtain ⟨k, rfl⟩ : ∃ m, k = m + 1 := ⟨k - 1, by omega⟩
    simp only [spec_cnLow.l0]
    by_cases h : b > 0
    · have h1 := Int.tmod_nonneg b ha
      have h2 := Int.tmod_lt_of_pos a h
      rw [if_pos h, if_neg (by omega), ih k b (a.tmod b) hb h1 (by omega) (by omega) (by rw [Mth.gcd_step]; exact hg), Mth.gcd_step]
    · obtain rfl : b = 0 := by omega
      have e : ((Int.gcd a 0 : Nat) : Int) = a := by rw [Int.gcd_zero_right]; omega
      have h0 : a ≠ 0 := by intro h; subst h; exact hg rfl
      rw [if_neg (by omega), if_neg h0, e]
theorem div_in {x g : Int} {M : Int} (hM : M ≤ 9223372036854775807) (h : -M ≤ x) (h' : x ≤ M) (hd : g ∣ x) (h0 : g ≠ 0) : wrap64 (Int.tdiv x g) = x / g := by
  rw [Int.tdiv_eq_ediv_of_dvd hd]
  obtain ⟨c, rfl⟩ := hd
  rw [Int.mul_ediv_cancel_left _ h0]
  have : c.natAbs ≤ (g * c).natAbs := by rw [Int.natAbs_mul]; exact Nat.le_mul_of_pos_left _ (by omega)
  exact wrap_id (by omega) (by omega)
theorem cnLow_eq (k : Nat) (a b : Int) (ha : 0 ≤ a) (ha' : a ≤ 9223372036854775807) (hb : 0 < b) (hb' : b ≤ 9223372036854775807) (hk : b.toNat < k) : spec_cnLow.f k a b = some (Mth.low a b) := by
  have hg := Int.gcd_pos_of_ne_zero_right a (b := b) (by omega)
  unfold spec_cnLow.f
  rw [cnLow_l0 a b b.toNat k a b ha (by omega) (Nat.le_refl _) hk (by omega)]
  rw [div_in (M := 9223372036854775807) (by omega) (by omega) ha' (Int.gcd_dvd_left a b) (by omega), div_in (M := 9223372036854775807) (by omega) (by omega) hb' (Int.gcd_dvd_right a b) (by omega)]
  unfold Mth.low Mth.dv
  rw [if_neg (by omega)]
theorem common_l0 (n : Nat) : ∀ (k : Nat) (a b : Int), 0 ≤ a → 0 ≤ b → b.toNat ≤ n → n < k → impl_common.l0 k a b = some (Int.gcd a b : Int) := by
  induction n with
  | zero =>
    intro k a b ha hb hn hk
    obtain ⟨k, rfl⟩ : ∃ m, k = m + 1 := ⟨k - 1, by omega⟩
    have hb0 : b = 0 := by omega
    simp only [impl_common.l0]
    rw [if_pos hb0, hb0, Int.gcd_zero_right]; congr 1; omega
  | succ n ih =>
    intro k a b ha hb hn hk
    obtain ⟨k, rfl⟩ : ∃ m, k = m + 1 := ⟨k - 1, by omega⟩
    simp only [impl_common.l0]
    by_cases h : b = 0
    · rw [if_pos h, h, Int.gcd_zero_right]; congr 1; omega
    · have h1 := Int.tmod_nonneg b ha
      have h2 := Int.tmod_lt_of_pos a (b := b) (by omega)
      rw [if_neg h, ih k b (a.tmod b) hb h1 (by omega) (by omega), Mth.gcd_step]
theorem mx_abs (a : Int) (h : -9223372036854775807 ≤ a) (h' : a ≤ 9223372036854775807) : mx a (wrap64 (-a)) = (a.natAbs : Int) := by
  rw [wrap_id (by omega) (by omega)]; unfold mx; split <;> omega
theorem common_eq (k : Nat) (a b : Int) (ha : -9223372036854775807 ≤ a) (ha' : a ≤ 9223372036854775807) (hb : -9223372036854775807 ≤ b) (hb' : b ≤ 9223372036854775807) (hk : b.natAbs < k) :
    impl_common.f k a b = some (Int.gcd a b : Int) := by
  unfold impl_common.f
  rw [mx_abs a ha ha', mx_abs b hb hb', common_l0 b.natAbs k _ _ (by omega) (by omega) (by omega) hk]
  simp [Int.gcd]
theorem lowest_eq (k : Nat) (a b : Int) (ha : -9223372036854775807 ≤ a) (ha' : a ≤ 9223372036854775807) (hb : -9223372036854775807 ≤ b) (hb' : b ≤ 9223372036854775807) (h0 : b ≠ 0) (hk : b.natAbs < k) :
    impl_lowest.f k a b = some (Mth.low a b) := by
  have hg := Int.gcd_pos_of_ne_zero_right a h0
  have hl : Int.gcd a b ≤ b.natAbs := Nat.le_of_dvd (by omega) (Int.gcd_dvd_natAbs_right a b)
  unfold impl_lowest.f
  rw [common_eq k a b ha ha' hb hb' hk]
  simp only [Option.bind_some]
  by_cases h : b < 0
  · have e : wrap64 (-((Int.gcd a b : Nat) : Int)) = -((Int.gcd a b : Nat) : Int) := wrap_id (by omega) (by omega)
    rw [if_pos h, e, if_neg (by omega), div_in (M := 9223372036854775807) (by omega) (by omega) ha' (Int.neg_dvd.2 (Int.gcd_dvd_left a b)) (by omega), div_in (M := 9223372036854775807) (by omega) (by omega) hb' (Int.neg_dvd.2 (Int.gcd_dvd_right a b)) (by omega)]
    unfold Mth.low Mth.dv
    rw [if_pos h]
  · rw [if_neg h, if_neg (by omega), div_in (M := 9223372036854775807) (by omega) (by omega) ha' (Int.gcd_dvd_left a b) (by omega), div_in (M := 9223372036854775807) (by omega) (by omega) hb' (Int.gcd_dvd_right a b) (by omega)]
    unfold Mth.low Mth.dv
    rw [if_neg h]

theorem low_bd {n d : Int} (h0 : 0 ≤ n) (hd : 0 < d) : (0 ≤ (Mth.low n d).1 ∧ (Mth.low n d).1 ≤ n) ∧ 0 < (Mth.low n d).2 ∧ (Mth.low n d).2 ≤ d :=
  ⟨⟨Mth.low_nonneg hd h0, Mth.low_num_le hd h0⟩, Mth.low_pos (by omega), Mth.low_den_le hd⟩
theorem cnLow_ev (a b : Int) (ha : 0 ≤ a) (ha' : a ≤ 9223372036854775807) (hb : 0 < b) (hb' : b ≤ 9223372036854775807) : Mth.Evn (fun k => spec_cnLow.f k a b) (Mth.low a b) :=
  ⟨b.toNat + 1, fun k hk => cnLow_eq k a b ha ha' hb hb' (by omega)⟩
theorem lowest_ev (a b : Int) (ha : -9223372036854775807 ≤ a) (ha' : a ≤ 9223372036854775807) (hb : -9223372036854775807 ≤ b) (hb' : b ≤ 9223372036854775807) (h0 : b ≠ 0) : Mth.Evn (fun k => impl_lowest.f k a b) (Mth.low a b) :=
  ⟨b.natAbs + 1, fun k hk => lowest_eq k a b ha ha' hb hb' h0 (by omega)⟩
/-- What a clue of a kind tells of a chain. -/
def clueVal (w d o kd : Int) : Int × Int × Bool :=
  if kd = 0 then (0, if w > d then 1 else 0, true) else if kd = 1 then (0, w + d, true) else if kd = 2 then (0, w * d, true)
  else if kd = 3 then (if w = 0 ∨ d = 0 then (0, 0, false) else ((Mth.low d (w + d)).1, (Mth.low d (w + d)).2, true))
  else if kd = 4 then (if d = 0 then (0, 0, false) else ((Mth.low o d).1, (Mth.low o d).2, true))
  else (0, (o - w) * (o - w) + w * d, true)
def fitsB (w d o kd a b : Int) : Bool := (clueVal w d o kd).2.2 && ((clueVal w d o kd).1 == a && (clueVal w d o kd).2.1 == b)
section
variable {w d o : Int} (ho : 1 ≤ o) (ho' : o ≤ 8) (hw : 0 ≤ w) (hw' : w ≤ o) (hd : 0 ≤ d) (hd' : d ≤ o)
include ho ho' hw hw' hd hd'
theorem prods : (0 ≤ w * d ∧ w * d ≤ 64) ∧ (0 ≤ (o - w) * (o - w) ∧ (o - w) * (o - w) ≤ 64) := by
  have h1 := Int.mul_nonneg hw hd
  have h2 := Int.mul_le_mul (show w ≤ 8 by omega) (show d ≤ 8 by omega) hd (by omega)
  have h3 := Int.mul_nonneg (show 0 ≤ o - w by omega) (show 0 ≤ o - w by omega)
  have h4 := Int.mul_le_mul (show o - w ≤ 8 by omega) (show o - w ≤ 8 by omega) (by omega) (by omega)
  omega
theorem pzValue_ev (kd : Int) : Mth.Evn (fun k => spec_pzValue.f k kd w d o) (clueVal w d o kd) := by
  obtain ⟨⟨p1, p2⟩, p3, p4⟩ := prods ho ho' hw hw' hd hd'
  unfold spec_pzValue.f clueVal
  by_cases k0 : kd = 0
  · refine Mth.Evn.congr (fun k => ?_) (Mth.Evn.now _)
    simp only [if_pos k0]; split <;> rfl
  · by_cases k1 : kd = 1
    · refine Mth.Evn.congr (fun k => ?_) (Mth.Evn.now _)
      simp only [if_neg k0, if_pos k1]; rw [wrap_id (by omega) (by omega)]
    · by_cases k2 : kd = 2
      · refine Mth.Evn.congr (fun k => ?_) (Mth.Evn.now _)
        simp only [if_neg k0, if_neg k1, if_pos k2]; rw [wrap_id (by omega) (by omega)]
      · by_cases k3 : kd = 3
        · refine Mth.Evn.congr (fun k => by rw [if_neg k0, if_neg k1, if_neg k2, if_pos k3]) ?_
          rw [if_neg k0, if_neg k1, if_neg k2, if_pos k3]
          by_cases w0 : w = 0
          · refine Mth.Evn.congr (fun k => by rw [if_pos w0]) ?_
            rw [if_pos (.inl w0)]; exact Mth.Evn.now _
          · by_cases d0 : d = 0
            · refine Mth.Evn.congr (fun k => by rw [if_neg w0, if_pos d0]) ?_
              rw [if_pos (.inr d0)]; exact Mth.Evn.now _
            · have ew : wrap64 (w + d) = w + d := wrap_id (by omega) (by omega)
              refine Mth.Evn.congr (fun k => by rw [if_neg w0, if_neg d0, ew]) ?_
              rw [if_neg (by omega)]
              exact (cnLow_ev d (w + d) (by omega) (by omega) (by omega) (by omega)).bind (Mth.Evn.now _)
        · by_cases k4 : kd = 4
          · refine Mth.Evn.congr (fun k => by rw [if_neg k0, if_neg k1, if_neg k2, if_neg k3, if_pos k4]) ?_
            rw [if_neg k0, if_neg k1, if_neg k2, if_neg k3, if_pos k4]
            by_cases d0 : d = 0
            · refine Mth.Evn.congr (fun k => by rw [if_pos d0]) ?_
              rw [if_pos d0]; exact Mth.Evn.now _
            · refine Mth.Evn.congr (fun k => by rw [if_neg d0]) ?_
              rw [if_neg d0]
              exact (cnLow_ev o d (by omega) (by omega) (by omega) (by omega)).bind (Mth.Evn.now _)
          · refine Mth.Evn.congr (fun k => ?_) (Mth.Evn.now _)
            simp only [if_neg k0, if_neg k1, if_neg k2, if_neg k3, if_neg k4]
            rw [wrap_id (x := o - w) (by omega) (by omega), wrap_id (x := (o - w) * (o - w)) (by omega) (by omega), wrap_id (x := w * d) (by omega) (by omega), wrap_id (x := (o - w) * (o - w) + w * d) (by omega) (by omega)]
theorem chain_good : decide ((1 ≤ o ∧ o ≤ 10) ∧ (0 ≤ w ∧ w ≤ o) ∧ (0 ≤ d ∧ d ≤ o)) = true := decide_eq_true ⟨⟨ho, by omega⟩, ⟨hw, hw'⟩, hd, hd'⟩
theorem longShare_ev : Mth.Evn (fun k => impl_LongShare.f k w d o (⟨#[100]⟩ : ByteArray)) (if w = 0 ∨ d = 0 then (0, 0, false) else ((Mth.low d (w + d)).1, (Mth.low d (w + d)).2, true)) := by
  have g := chain_good ho ho' hw hw' hd hd'
  have hday : impl_isDay.f (⟨#[100]⟩ : ByteArray) = some true := by decide +kernel
  have hb : bt (⟨#[100]⟩ : ByteArray) 0 = 100 := by decide
  unfold impl_LongShare.f
  refine Mth.Evn.congr (g := fun k => impl_LongShare.j0 k (⟨#[100]⟩ : ByteArray) (!decide (w > 0 ∧ d > 0)) w d o) (fun k => ?_) ?_
  · rw [IsChain_eq, g, hday]; simp only [Option.bind_some, if_true, impl_Chain_mixes.f]
    by_cases h : w > 0
    · rw [if_pos h]; simp only [Option.bind_some]; congr 2; simp [h]
    · rw [if_neg h]; simp only [Option.bind_some]; congr 2; simp [h]
  · by_cases h : w = 0 ∨ d = 0
    · rw [if_pos h, decide_eq_false (by omega)]
      refine (Mth.Evn.now _).step fun k => ?_
      simp only [impl_LongShare.j0]; rfl
    · rw [if_neg h, decide_eq_true (by omega)]
      have ew : wrap64 (w + d) = w + d := wrap_id (by omega) (by omega)
      refine Mth.Evn.step (g := fun k => (impl_lowest.f k d (w + d)).bind fun b => some (b.1, b.2, true)) (fun k => ?_) ((lowest_ev d (w + d) (by omega) (by omega) (by omega) (by omega) (by omega)).bind (Mth.Evn.now _))
      simp only [impl_LongShare.j0, impl_Chain_share.f, impl_otherDay.f, impl_Chain_leave.f, impl_frac_told.f, hb, ew]
      rw [if_neg (by decide), if_pos (by decide)]
      simp only [if_true, Option.bind_some]
      rw [if_neg (by decide)]
      simp only [Option.bind_some]
      cases impl_lowest.f k d (w + d) <;> rfl
theorem meanRun_ev : Mth.Evn (fun k => impl_MeanRun.f k w d o (⟨#[119]⟩ : ByteArray)) (if d = 0 then (0, 0, false) else ((Mth.low o d).1, (Mth.low o d).2, true)) := by
  have g := chain_good ho ho' hw hw' hd hd'
  have hday : impl_isDay.f (⟨#[119]⟩ : ByteArray) = some true := by decide +kernel
  have hb : bt (⟨#[119]⟩ : ByteArray) 0 = 119 := by decide
  unfold impl_MeanRun.f
  refine Mth.Evn.congr (g := fun k => impl_MeanRun.j0 k (⟨#[119]⟩ : ByteArray) (d == 0) w d o) (fun k => ?_) ?_
  · rw [IsChain_eq, g, hday, hb]; simp only [Option.bind_some, if_true, impl_Chain_leave.f]
    rw [if_pos (by decide), if_neg (by decide)]; rfl
  · by_cases h : d = 0
    · rw [if_pos h, show (d == 0) = true by simpa using h]
      refine (Mth.Evn.now _).step fun k => ?_
      simp only [impl_MeanRun.j0]; rfl
    · rw [if_neg h, show (d == 0) = false by simpa using h]
      refine Mth.Evn.step (g := fun k => (impl_lowest.f k o d).bind fun b => some (b.1, b.2, true)) (fun k => ?_) ((lowest_ev o d (by omega) (by omega) (by omega) (by omega) (by omega)).bind (Mth.Evn.now _))
      simp only [impl_MeanRun.j0, impl_Chain_leave.f, impl_frac_told.f, hb]
      rw [if_neg (by decide), if_pos (by decide), if_neg (by decide)]
      simp only [Option.bind_some]
theorem clue_ev (kd : Int) : Mth.Evn (fun k => impl_Chain_clue.f k w d o kd) (kd, clueVal w d o kd) := by
  obtain ⟨⟨p1, p2⟩, p3, p4⟩ := prods ho ho' hw hw' hd hd'
  unfold impl_Chain_clue.f clueVal
  by_cases k0 : kd = 0
  · refine Mth.Evn.congr (fun k => ?_) (Mth.Evn.now _)
    simp only [if_pos k0]; split <;> rfl
  · by_cases k1 : kd = 1
    · refine Mth.Evn.congr (fun k => ?_) (Mth.Evn.now _)
      simp only [if_neg k0, if_pos k1]; rw [wrap_id (by omega) (by omega)]
    · by_cases k2 : kd = 2
      · refine Mth.Evn.congr (fun k => ?_) (Mth.Evn.now _)
        simp only [if_neg k0, if_neg k1, if_pos k2]; rw [wrap_id (by omega) (by omega)]
      · by_cases k3 : kd = 3
        · refine Mth.Evn.congr (fun k => by rw [if_neg k0, if_neg k1, if_neg k2, if_pos k3]) ?_
          rw [if_neg k0, if_neg k1, if_neg k2, if_pos k3]
          refine (longShare_ev ho ho' hw hw' hd hd').bind ?_
          exact Mth.Evn.now _
        · by_cases k4 : kd = 4
          · refine Mth.Evn.congr (fun k => by rw [if_neg k0, if_neg k1, if_neg k2, if_neg k3, if_pos k4]) ?_
            rw [if_neg k0, if_neg k1, if_neg k2, if_neg k3, if_pos k4]
            refine (meanRun_ev ho ho' hw hw' hd hd').bind ?_
            exact Mth.Evn.now _
          · refine Mth.Evn.congr (fun k => ?_) (Mth.Evn.now _)
            simp only [if_neg k0, if_neg k1, if_neg k2, if_neg k3, if_neg k4]
            rw [wrap_id (x := o - w) (by omega) (by omega), wrap_id (x := (o - w) * (o - w)) (by omega) (by omega), wrap_id (x := w * d) (by omega) (by omega), wrap_id (x := (o - w) * (o - w) + w * d) (by omega) (by omega)]
end
section
variable {w d o : Int} (ho : 1 ≤ o) (ho' : o ≤ 8) (hw : 0 ≤ w) (hw' : w ≤ o) (hd : 0 ≤ d) (hd' : d ≤ o)
include ho ho' hw hw' hd hd'
theorem pzFits_ev (kd a b : Int) : Mth.Evn (fun k => spec_pzFits.f k kd a b w d o) (fitsB w d o kd a b) := by
  unfold spec_pzFits.f fitsB
  refine (pzValue_ev ho ho' hw hw' hd hd' kd).bind ?_
  generalize clueVal w d o kd = v
  refine Mth.Evn.congr (fun k => ?_) (Mth.Evn.now _)
  obtain ⟨x, y, z⟩ := v
  cases z
  · simp
  · by_cases h : x = a
    · simp [h]
    · simp [h]
theorem fits_ev (kd a b : Int) : Mth.Evn (fun k => impl_Chain_fits.f k w d o kd a b) (fitsB w d o kd a b) := by
  unfold impl_Chain_fits.f fitsB
  refine (clue_ev ho ho' hw hw' hd hd' kd).bind ?_
  generalize clueVal w d o kd = v
  refine Mth.Evn.congr (fun k => ?_) (Mth.Evn.now _)
  obtain ⟨x, y, z⟩ := v
  cases z <;> simp
end
abbrev clueOk (kd a b : Int) : Prop := (0 ≤ a ∧ a ≤ 100) ∧ (0 ≤ b ∧ b ≤ 100) ∧ ((kd = 0 ∧ a = 0 ∧ b ≤ 1) ∨ ((kd = 1 ∨ kd = 2 ∨ kd = 5) ∧ a = 0) ∨ ((kd = 3 ∨ kd = 4) ∧ 1 ≤ b))
theorem pzClue_eq (k : Nat) (kd a b : Int) : spec_pzClue.f (k + 2) kd a b = some (decide (clueOk kd a b)) := by
  unfold clueOk
  simp only [spec_pzClue.f, spec_pzClue.j0, spec_pzClue.j1, l1In_eq, Option.bind_some]
  by_cases h2 : 0 ≤ a ∧ a ≤ 100
  · by_cases h3 : 0 ≤ b ∧ b ≤ 100
    · simp only [h2, h3, decide_true, if_true, Bool.not_true, Bool.false_eq_true, if_false, Option.bind_some, true_and, and_self]
      by_cases k0 : kd = 0
      · subst k0; by_cases h4 : a = 0
        · subst h4; simp; omega
        · simp [h4]
      · by_cases k1 : kd = 1
        · subst k1; simp
          by_cases h4 : a = 0 <;> simp [h4]
        · by_cases k2 : kd = 2
          · subst k2; simp
            by_cases h4 : a = 0 <;> simp [h4]
          · by_cases k5 : kd = 5
            · subst k5; simp
              by_cases h4 : a = 0 <;> simp [h4]
            · have k5' : (kd == 5) = false := by simpa using k5
              by_cases k3 : kd = 3
              · subst k3; simp; omega
              · by_cases k4 : kd = 4
                · subst k4; simp; omega
                · simp [k0, k1, k2, k3, k4, k5]
    · simp [h2, h3]
  · simp only [h2, decide_false, Bool.false_eq_true, if_false, false_and, if_true]
theorem IsClue_eq (k : Nat) (of kd a b : Int) : impl_IsClue.f (k + 1) of kd a b = some (decide ((1 ≤ of ∧ of ≤ 8) ∧ clueOk kd a b)) := by
  unfold clueOk
  unfold impl_IsClue.f impl_isTwo.f
  by_cases k3 : kd = 3
  · rw [if_pos k3]; simp only [Option.bind_some, if_true, impl_IsClue.j0, within_eq, ite_dec]
    exact some_dec (by omega)
  · rw [if_neg k3]
    by_cases k4 : kd = 4
    · have e : (kd == 4) = true := by simpa using k4
      simp only [e, Option.bind_some, if_true, impl_IsClue.j0, within_eq, ite_dec]
      exact some_dec (by omega)
    · have e : (kd == 4) = false := by simpa using k4
      rw [e]; simp only [Option.bind_some, Bool.false_eq_true, if_false]
      by_cases k0 : kd = 0
      · rw [if_pos k0]; simp only [impl_IsClue.j0, within_eq, Option.bind_some, ite_dec]
        exact some_dec (by omega)
      · rw [if_neg k0]; simp only [impl_IsClue.j0, within_eq, Option.bind_some, ite_dec]
        exact some_dec (by omega)
theorem holds (a0_0 : Int) (a0_1 : Int) (a0_2 : Int) (a1_0 : Int) (a1_1 : Int) (a1_2 : Int) (w0_0 : (Lit.int .i64 a0_0).wf = true) (w0_1 : (Lit.int .i64 a0_1).wf = true) (w0_2 : (Lit.int .i64 a0_2).wf = true) (w1_0 : (Lit.int .i64 a1_0).wf = true) (w1_1 : (Lit.int .i64 a1_1).wf = true) (w1_2 : (Lit.int .i64 a1_2).wf = true) : ∃ k, laws_FnExactDoesFit.f k a0_0 a0_1 a0_2 a1_0 a1_1 a1_2 = some true := by
  refine Mth.Evn.get (f := fun k => laws_FnExactDoesFit.f k a0_0 a0_1 a0_2 a1_0 a1_1 a1_2) ?_
  have e1 : spec_pzHidden.f a1_0 a1_1 a1_2 = some (decide (((1 ≤ a1_2 ∧ a1_2 ≤ 10) ∧ (0 ≤ a1_0 ∧ a1_0 ≤ a1_2) ∧ (0 ≤ a1_1 ∧ a1_1 ≤ a1_2)) ∧ (1 ≤ a1_2 ∧ a1_2 ≤ 8))) := by
    unfold spec_pzHidden.f spec_pzOf.f
    rw [cnGood_eq, l1In_eq]; simp only [Option.bind_some, ite_dec]
  have e2 : impl_isHidden.f a1_0 a1_1 a1_2 = some (decide (((1 ≤ a1_2 ∧ a1_2 ≤ 10) ∧ (0 ≤ a1_0 ∧ a1_0 ≤ a1_2) ∧ (0 ≤ a1_1 ∧ a1_1 ≤ a1_2)) ∧ a1_2 ≤ 8)) := by
    unfold impl_isHidden.f
    rw [IsChain_eq]; simp only [Option.bind_some, ite_dec]
  by_cases h : ((1 ≤ a1_2 ∧ a1_2 ≤ 10) ∧ (0 ≤ a1_0 ∧ a1_0 ≤ a1_2) ∧ (0 ≤ a1_1 ∧ a1_1 ≤ a1_2)) ∧ (1 ≤ a1_2 ∧ a1_2 ≤ 8)
  · have h' : ((1 ≤ a1_2 ∧ a1_2 ≤ 10) ∧ (0 ≤ a1_0 ∧ a1_0 ≤ a1_2) ∧ (0 ≤ a1_1 ∧ a1_1 ≤ a1_2)) ∧ a1_2 ≤ 8 := ⟨h.1, h.2.2⟩
    obtain ⟨K1, f1⟩ := pzFits_ev h.2.1 h.2.2 h.1.2.1.1 h.1.2.1.2 h.1.2.2.1 h.1.2.2.2 a0_0 a0_1 a0_2
    obtain ⟨K2, f2⟩ := fits_ev h.2.1 h.2.2 h.1.2.1.1 h.1.2.1.2 h.1.2.2.1 h.1.2.2.2 a0_0 a0_1 a0_2
    refine ⟨max K1 K2 + 2, fun k hk => ?_⟩
    obtain ⟨m, rfl⟩ : ∃ m, k = m + 2 := ⟨k - 2, by omega⟩
    have g1 := f1 (m + 2) (by omega)
    have g2 := f2 (m + 2) (by omega)
    simp only at g1 g2
    simp only [laws_FnExactDoesFit.f, laws_toClue.f, laws_toChain.f, spec_DoesFit.f, impl_DoesFit.f, e1, e2, decide_eq_true h, decide_eq_true h', Option.bind_some, if_true, pzClue_eq, IsClue_eq, g1, g2]
    by_cases c : clueOk a0_0 a0_1 a0_2
    · rw [decide_eq_true c, decide_eq_true (show (1 ≤ a1_2 ∧ a1_2 ≤ 8) ∧ clueOk a0_0 a0_1 a0_2 from ⟨h.2, c⟩)]; simp
    · rw [decide_eq_false c, decide_eq_false (fun h3 : (1 ≤ a1_2 ∧ a1_2 ≤ 8) ∧ clueOk a0_0 a0_1 a0_2 => c h3.2)]; simp
  · have h' : ¬ (((1 ≤ a1_2 ∧ a1_2 ≤ 10) ∧ (0 ≤ a1_0 ∧ a1_0 ≤ a1_2) ∧ (0 ≤ a1_1 ∧ a1_1 ≤ a1_2)) ∧ a1_2 ≤ 8) := fun h3 => h ⟨h3.1, h3.1.1.1, h3.2⟩
    refine ⟨0, fun k _ => ?_⟩
    simp only [laws_FnExactDoesFit.f, laws_toClue.f, laws_toChain.f, spec_DoesFit.f, impl_DoesFit.f, e1, e2, decide_eq_false h, decide_eq_false h', Option.bind_some]
    simp
end Go.Proofs.Ytjcilclfgghfhaa.PureFnExactDoesFit
