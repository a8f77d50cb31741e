/- The pure statement of FnExactHarderPuzzle: both sides strike needless clues in the same order; what is given is the call's own. No condition. -/
import Derived.Test.YtcbpidgjobbhbaaQFnExactHarderPuzzlex10
import Derived.Test.YtcbpidgjobbhbaaMath
import Derived.OpenShut
namespace Go.Proofs.Ytcbpidgjobbhbaa.PureFnExactHarderPuzzle
open Go Go.RowKit Go.Proofs.Ytcbpidgjobbhbaa.QFnExactHarderPuzzle Go.Proofs.YtcbpidgjobbhbaaW.PrintWords Go.Proofs.YtcbpidgjobbhbaaW.PrintLast Go.Proofs.YtcbpidgjobbhbaaW.PrintMore
set_option linter.unusedVariables false
set_option linter.unusedSimpArgs false

theorem wrap_id {x : Int} (h : -9223372036854775808 ≤ x) (h' : x ≤ 9223372036854775807) : wrap64 x = x := by unfold wrap64; omega
theorem ite_dec (p q : Prop) [Decidable p] [Decidable q] : (if decide p = true then some (decide q) else some false) = some (decide (p ∧ q)) := by
  by_cases h : p <;> simp [h]
theorem some_dec {p q : Prop} [Decidable p] [Decidable q] (h : p ↔ q) : some (decide p) = some (decide q) := by rw [decide_eq_decide.2 h]
theorem l1In_eq (a b c : Int) : spec_l1In.f a b c = some (decide (b ≤ a ∧ a ≤ c)) := by
  unfold spec_l1In.f
  by_cases h : a ≥ b
  · rw [if_pos h]; simp [show b ≤ a from h]
  · rw [if_neg h]; simp; omega
theorem within_eq (a b c : Int) : impl_within.f a b c = some (decide (b ≤ a ∧ a ≤ c)) := by
  unfold impl_within.f
  by_cases h : a ≥ b
  · rw [if_pos h]; simp [show b ≤ a from h]
  · rw [if_neg h]; simp; omega
theorem IsChain_eq (a b c : Int) : impl_IsChain.f a b c = some (decide ((1 ≤ c ∧ c ≤ 10) ∧ (0 ≤ a ∧ a ≤ c) ∧ (0 ≤ b ∧ b ≤ c))) := by
  unfold impl_IsChain.f; simp only [within_eq, Option.bind_some]
  by_cases h : 1 ≤ c ∧ c ≤ 10 <;> by_cases h2 : 0 ≤ a ∧ a ≤ c <;> simp [h, h2]
theorem cnLow_l0 (x0 x1 : Int) (n : Nat) : ∀ (k : Nat) (a b : Int), 0 ≤ a → 0 ≤ b → b.toNat ≤ n → n < k → Int.gcd a b ≠ 0 →
    spec_cnLow.l0 k x0 x1 a b = some (wrap64 (Int.tdiv x0 (Int.gcd a b)), wrap64 (Int.tdiv x1 (Int.gcd a b))) := by
  induction n with
  | zero =>
    intro k a b ha hb hn hk hg
    obtain ⟨k, rfl⟩ : ∃ m, k = m + 1 := ⟨k - 1, by omega⟩
    obtain rfl : b = 0 := by omega
    have e : ((Int.gcd a 0 : Nat) : Int) = a := by rw [Int.gcd_zero_right]; omega
    have h0 : a ≠ 0 := by intro h; subst h; exact hg rfl
    simp only [spec_cnLow.l0]
    rw [if_neg (by omega), if_neg h0, e]
  | succ n ih =>
    intro k a b ha hb hn hk hg
    obtain ⟨k, rfl⟩ : ∃ m, k = m + 1 := ⟨k - 1, by omega⟩
    simp only [spec_cnLow.l0]
    by_cases h : b > 0
    · have h1 := Int.tmod_nonneg b ha
      have h2 := Int.tmod_lt_of_pos a h
      rw [if_pos h, if_neg (by omega), ih k b (a.tmod b) hb h1 (by omega) (by omega) (by rw [Mth.gcd_step]; exact hg), Mth.gcd_step]
    · obtain rfl : b = 0 := by omega
      have e : ((Int.gcd a 0 : Nat) : Int) = a := by rw [Int.gcd_zero_right]; omega
      have h0 : a ≠ 0 := by intro h; subst h; exact hg rfl
      rw [if_neg (by omega), if_neg h0, e]
theorem div_in {x g : Int} {M : Int} (hM : M ≤ 9223372036854775807) (h : -M ≤ x) (h' : x ≤ M) (hd : g ∣ x) (h0 : g ≠ 0) : wrap64 (Int.tdiv x g) = x / g := by
  rw [Int.tdiv_eq_ediv_of_dvd hd]
  obtain ⟨c, rfl⟩ := hd
  rw [Int.mul_ediv_cancel_left _ h0]
  have : c.natAbs ≤ (g * c).natAbs := by rw [Int.natAbs_mul]; exact Nat.le_mul_of_pos_left _ (by omega)
  exact wrap_id (by omega) (by omega)
theorem cnLow_eq (k : Nat) (a b : Int) (ha : 0 ≤ a) (ha' : a ≤ 9223372036854775807) (hb : 0 < b) (hb' : b ≤ 9223372036854775807) (hk : b.toNat < k) : spec_cnLow.f k a b = some (Mth.low a b) := by
  have hg := Int.gcd_pos_of_ne_zero_right a (b := b) (by omega)
  unfold spec_cnLow.f
  rw [cnLow_l0 a b b.toNat k a b ha (by omega) (Nat.le_refl _) hk (by omega)]
  rw [div_in (M := 9223372036854775807) (by omega) (by omega) ha' (Int.gcd_dvd_left a b) (by omega), div_in (M := 9223372036854775807) (by omega) (by omega) hb' (Int.gcd_dvd_right a b) (by omega)]
  unfold Mth.low Mth.dv
  rw [if_neg (by omega)]
theorem common_l0 (n : Nat) : ∀ (k : Nat) (a b : Int), 0 ≤ a → 0 ≤ b → b.toNat ≤ n → n < k → impl_common.l0 k a b = some (Int.gcd a b : Int) := by
  induction n with
  | zero =>
    intro k a b ha hb hn hk
    obtain ⟨k, rfl⟩ : ∃ m, k = m + 1 := ⟨k - 1, by omega⟩
    have hb0 : b = 0 := by omega
    simp only [impl_common.l0]
    rw [if_pos hb0, hb0, Int.gcd_zero_right]; congr 1; omega
  | succ n ih =>
    intro k a b ha hb hn hk
    obtain ⟨k, rfl⟩ : ∃ m, k = m + 1 := ⟨k - 1, by omega⟩
    simp only [impl_common.l0]
    by_cases h : b = 0
    · rw [if_pos h, h, Int.gcd_zero_right]; congr 1; omega
    · have h1 := Int.tmod_nonneg b ha
      have h2 := Int.tmod_lt_of_pos a (b := b) (by omega)
      rw [if_neg h, ih k b (a.tmod b) hb h1 (by omega) (by omega), Mth.gcd_step]
theorem mx_abs (a : Int) (h : -9223372036854775807 ≤ a) (h' : a ≤ 9223372036854775807) : mx a (wrap64 (-a)) = (a.natAbs : Int) := by
  rw [wrap_id (by omega) (by omega)]; unfold mx; split <;> omega
theorem common_eq (k : Nat) (a b : Int) (ha : -9223372036854775807 ≤ a) (ha' : a ≤ 9223372036854775807) (hb : -9223372036854775807 ≤ b) (hb' : b ≤ 9223372036854775807) (hk : b.natAbs < k) :
    impl_common.f k a b = some (Int.gcd a b : Int) := by
  unfold impl_common.f
  rw [mx_abs a ha ha', mx_abs b hb hb', common_l0 b.natAbs k _ _ (by omega) (by omega) (by omega) hk]
  simp [Int.gcd]
theorem lowest_eq (k : Nat) (a b : Int) (ha : -9223372036854775807 ≤ a) (ha' : a ≤ 9223372036854775807) (hb : -9223372036854775807 ≤ b) (hb' : b ≤ 9223372036854775807) (h0 : b ≠ 0) (hk : b.natAbs < k) :
    impl_lowest.f k a b = some (Mth.low a b) := by
  have hg := Int.gcd_pos_of_ne_zero_right a h0
  have hl : Int.gcd a b ≤ b.natAbs := Nat.le_of_dvd (by omega) (Int.gcd_dvd_natAbs_right a b)
  unfold impl_lowest.f
  rw [common_eq k a b ha ha' hb hb' hk]
  simp only [Option.bind_some]
  by_cases h : b < 0
  · have e : wrap64 (-((Int.gcd a b : Nat) : Int)) = -((Int.gcd a b : Nat) : Int) := wrap_id (by omega) (by omega)
    rw [if_pos h, e, if_neg (by omega), div_in (M := 9223372036854775807) (by omega) (by omega) ha' (Int.neg_dvd.2 (Int.gcd_dvd_left a b)) (by omega), div_in (M := 9223372036854775807) (by omega) (by omega) hb' (Int.neg_dvd.2 (Int.gcd_dvd_right a b)) (by omega)]
    unfold Mth.low Mth.dv
    rw [if_pos h]
  · rw [if_neg h, if_neg (by omega), div_in (M := 9223372036854775807) (by omega) (by omega) ha' (Int.gcd_dvd_left a b) (by omega), div_in (M := 9223372036854775807) (by omega) (by omega) hb' (Int.gcd_dvd_right a b) (by omega)]
    unfold Mth.low Mth.dv
    rw [if_neg h]

theorem low_bd {n d : Int} (h0 : 0 ≤ n) (hd : 0 < d) : (0 ≤ (Mth.low n d).1 ∧ (Mth.low n d).1 ≤ n) ∧ 0 < (Mth.low n d).2 ∧ (Mth.low n d).2 ≤ d :=
  ⟨⟨Mth.low_nonneg hd h0, Mth.low_num_le hd h0⟩, Mth.low_pos (by omega), Mth.low_den_le hd⟩
theorem cnLow_ev (a b : Int) (ha : 0 ≤ a) (ha' : a ≤ 9223372036854775807) (hb : 0 < b) (hb' : b ≤ 9223372036854775807) : Mth.Evn (fun k => spec_cnLow.f k a b) (Mth.low a b) :=
  ⟨b.toNat + 1, fun k hk => cnLow_eq k a b ha ha' hb hb' (by omega)⟩
theorem lowest_ev (a b : Int) (ha : -9223372036854775807 ≤ a) (ha' : a ≤ 9223372036854775807) (hb : -9223372036854775807 ≤ b) (hb' : b ≤ 9223372036854775807) (h0 : b ≠ 0) : Mth.Evn (fun k => impl_lowest.f k a b) (Mth.low a b) :=
  ⟨b.natAbs + 1, fun k hk => lowest_eq k a b ha ha' hb hb' h0 (by omega)⟩
/-- What a clue of a kind tells of a chain. -/
def clueVal (w d o kd : Int) : Int × Int × Bool :=
  if kd = 0 then (0, if w > d then 1 else 0, true) else if kd = 1 then (0, w + d, true) else if kd = 2 then (0, w * d, true)
  else if kd = 3 then (if w = 0 ∨ d = 0 then (0, 0, false) else ((Mth.low d (w + d)).1, (Mth.low d (w + d)).2, true))
  else if kd = 4 then (if d = 0 then (0, 0, false) else ((Mth.low o d).1, (Mth.low o d).2, true))
  else (0, (o - w) * (o - w) + w * d, true)
def fitsB (w d o kd a b : Int) : Bool := (clueVal w d o kd).2.2 && ((clueVal w d o kd).1 == a && (clueVal w d o kd).2.1 == b)
section
variable {w d o : Int} (ho : 1 ≤ o) (ho' : o ≤ 8) (hw : 0 ≤ w) (hw' : w ≤ o) (hd : 0 ≤ d) (hd' : d ≤ o)
include ho ho' hw hw' hd hd'
theorem prods : (0 ≤ w * d ∧ w * d ≤ 64) ∧ (0 ≤ (o - w) * (o - w) ∧ (o - w) * (o - w) ≤ 64) := by
  have h1 := Int.mul_nonneg hw hd
  have h2 := Int.mul_le_mul (show w ≤ 8 by omega) (show d ≤ 8 by omega) hd (by omega)
  have h3 := Int.mul_nonneg (show 0 ≤ o - w by omega) (show 0 ≤ o - w by omega)
  have h4 := Int.mul_le_mul (show o - w ≤ 8 by omega) (show o - w ≤ 8 by omega) (by omega) (by omega)
  omega
theorem pzValue_ev (kd : Int) : Mth.Evn (fun k => spec_pzValue.f k kd w d o) (clueVal w d o kd) := by
  obtain ⟨⟨p1, p2⟩, p3, p4⟩ := prods ho ho' hw hw' hd hd'
  unfold spec_pzValue.f clueVal
  by_cases k0 : kd = 0
  · refine Mth.Evn.congr (fun k => ?_) (Mth.Evn.now _)
    simp only [if_pos k0]; split <;> rfl
  · by_cases k1 : kd = 1
    · refine Mth.Evn.congr (fun k => ?_) (Mth.Evn.now _)
      simp only [if_neg k0, if_pos k1]; rw [wrap_id (by omega) (by omega)]
    · by_cases k2 : kd = 2
      · refine Mth.Evn.congr (fun k => ?_) (Mth.Evn.now _)
        simp only [if_neg k0, if_neg k1, if_pos k2]; rw [wrap_id (by omega) (by omega)]
      · by_cases k3 : kd = 3
        · refine Mth.Evn.congr (fun k => by rw [if_neg k0, if_neg k1, if_neg k2, if_pos k3]) ?_
          rw [if_neg k0, if_neg k1, if_neg k2, if_pos k3]
          by_cases w0 : w = 0
          · refine Mth.Evn.congr (fun k => by rw [if_pos w0]) ?_
            rw [if_pos (.inl w0)]; exact Mth.Evn.now _
          · by_cases d0 : d = 0
            · refine Mth.Evn.congr (fun k => by rw [if_neg w0, if_pos d0]) ?_
              rw [if_pos (.inr d0)]; exact Mth.Evn.now _
            · have ew : wrap64 (w + d) = w + d := wrap_id (by omega) (by omega)
              refine Mth.Evn.congr (fun k => by rw [if_neg w0, if_neg d0, ew]) ?_
              rw [if_neg (by omega)]
              exact (cnLow_ev d (w + d) (by omega) (by omega) (by omega) (by omega)).bind (Mth.Evn.now _)
        · by_cases k4 : kd = 4
          · refine Mth.Evn.congr (fun k => by rw [if_neg k0, if_neg k1, if_neg k2, if_neg k3, if_pos k4]) ?_
            rw [if_neg k0, if_neg k1, if_neg k2, if_neg k3, if_pos k4]
            by_cases d0 : d = 0
            · refine Mth.Evn.congr (fun k => by rw [if_pos d0]) ?_
              rw [if_pos d0]; exact Mth.Evn.now _
            · refine Mth.Evn.congr (fun k => by rw [if_neg d0]) ?_
              rw [if_neg d0]
              exact (cnLow_ev o d (by omega) (by omega) (by omega) (by omega)).bind (Mth.Evn.now _)
          · refine Mth.Evn.congr (fun k => ?_) (Mth.Evn.now _)
            simp only [if_neg k0, if_neg k1, if_neg k2, if_neg k3, if_neg k4]
            rw [wrap_id (x := o - w) (by omega) (by omega), wrap_id (x := (o - w) * (o - w)) (by omega) (by omega), wrap_id (x := w * d) (by omega) (by omega), wrap_id (x := (o - w) * (o - w) + w * d) (by omega) (by omega)]
theorem chain_good : decide ((1 ≤ o ∧ o ≤ 10) ∧ (0 ≤ w ∧ w ≤ o) ∧ (0 ≤ d ∧ d ≤ o)) = true := decide_eq_true ⟨⟨ho, by omega⟩, ⟨hw, hw'⟩, hd, hd'⟩
theorem longShare_ev : Mth.Evn (fun k => impl_LongShare.f k w d o (⟨#[100]⟩ : ByteArray)) (if w = 0 ∨ d = 0 then (0, 0, false) else ((Mth.low d (w + d)).1, (Mth.low d (w + d)).2, true)) := by
  have g := chain_good ho ho' hw hw' hd hd'
  have hday : impl_isDay.f (⟨#[100]⟩ : ByteArray) = some true := by decide +kernel
  have hb : bt (⟨#[100]⟩ : ByteArray) 0 = 100 := by decide
  unfold impl_LongShare.f
  refine Mth.Evn.congr (g := fun k => impl_LongShare.j0 k (⟨#[100]⟩ : ByteArray) (!decide (w > 0 ∧ d > 0)) w d o) (fun k => ?_) ?_
  · rw [IsChain_eq, g, hday]; simp only [Option.bind_some, if_true, impl_Chain_mixes.f]
    by_cases h : w > 0
    · rw [if_pos h]; simp only [Option.bind_some]; congr 2; simp [h]
    · rw [if_neg h]; simp only [Option.bind_some]; congr 2; simp [h]
  · by_cases h : w = 0 ∨ d = 0
    · rw [if_pos h, decide_eq_false (by omega)]
      refine (Mth.Evn.now _).step fun k => ?_
      simp only [impl_LongShare.j0]; rfl
    · rw [if_neg h, decide_eq_true (by omega)]
      have ew : wrap64 (w + d) = w + d := wrap_id (by omega) (by omega)
      refine Mth.Evn.step (g := fun k => (impl_lowest.f k d (w + d)).bind fun b => some (b.1, b.2, true)) (fun k => ?_) ((lowest_ev d (w + d) (by omega) (by omega) (by omega) (by omega) (by omega)).bind (Mth.Evn.now _))
      simp only [impl_LongShare.j0, impl_Chain_share.f, impl_otherDay.f, impl_Chain_leave.f, impl_frac_told.f, hb, ew]
      rw [if_neg (by decide), if_pos (by decide)]
      simp only [if_true, Option.bind_some]
      rw [if_neg (by decide)]
      simp only [Option.bind_some]
      cases impl_lowest.f k d (w + d) <;> rfl
theorem meanRun_ev : Mth.Evn (fun k => impl_MeanRun.f k w d o (⟨#[119]⟩ : ByteArray)) (if d = 0 then (0, 0, false) else ((Mth.low o d).1, (Mth.low o d).2, true)) := by
  have g := chain_good ho ho' hw hw' hd hd'
  have hday : impl_isDay.f (⟨#[119]⟩ : ByteArray) = some true := by decide +kernel
  have hb : bt (⟨#[119]⟩ : ByteArray) 0 = 119 := by decide
  unfold impl_MeanRun.f
  refine Mth.Evn.congr (g := fun k => impl_MeanRun.j0 k (⟨#[119]⟩ : ByteArray) (d == 0) w d o) (fun k => ?_) ?_
  · rw [IsChain_eq, g, hday, hb]; simp only [Option.bind_some, if_true, impl_Chain_leave.f]
    rw [if_pos (by decide), if_neg (by decide)]; rfl
  · by_cases h : d = 0
    · rw [if_pos h, show (d == 0) = true by simpa using h]
      refine (Mth.Evn.now _).step fun k => ?_
      simp only [impl_MeanRun.j0]; rfl
    · rw [if_neg h, show (d == 0) = false by simpa using h]
      refine Mth.Evn.step (g := fun k => (impl_lowest.f k o d).bind fun b => some (b.1, b.2, true)) (fun k => ?_) ((lowest_ev o d (by omega) (by omega) (by omega) (by omega) (by omega)).bind (Mth.Evn.now _))
      simp only [impl_MeanRun.j0, impl_Chain_leave.f, impl_frac_told.f, hb]
      rw [if_neg (by decide), if_pos (by decide), if_neg (by decide)]
      simp only [Option.bind_some]
theorem clue_ev (kd : Int) : Mth.Evn (fun k => impl_Chain_clue.f k w d o kd) (kd, clueVal w d o kd) := by
  obtain ⟨⟨p1, p2⟩, p3, p4⟩ := prods ho ho' hw hw' hd hd'
  unfold impl_Chain_clue.f clueVal
  by_cases k0 : kd = 0
  · refine Mth.Evn.congr (fun k => ?_) (Mth.Evn.now _)
    simp only [if_pos k0]; split <;> rfl
  · by_cases k1 : kd = 1
    · refine Mth.Evn.congr (fun k => ?_) (Mth.Evn.now _)
      simp only [if_neg k0, if_pos k1]; rw [wrap_id (by omega) (by omega)]
    · by_cases k2 : kd = 2
      · refine Mth.Evn.congr (fun k => ?_) (Mth.Evn.now _)
        simp only [if_neg k0, if_neg k1, if_pos k2]; rw [wrap_id (by omega) (by omega)]
      · by_cases k3 : kd = 3
        · refine Mth.Evn.congr (fun k => by rw [if_neg k0, if_neg k1, if_neg k2, if_pos k3]) ?_
          rw [if_neg k0, if_neg k1, if_neg k2, if_pos k3]
          refine (longShare_ev ho ho' hw hw' hd hd').bind ?_
          exact Mth.Evn.now _
        · by_cases k4 : kd = 4
          · refine Mth.Evn.congr (fun k => by rw [if_neg k0, if_neg k1, if_neg k2, if_neg k3, if_pos k4]) ?_
            rw [if_neg k0, if_neg k1, if_neg k2, if_neg k3, if_pos k4]
            refine (meanRun_ev ho ho' hw hw' hd hd').bind ?_
            exact Mth.Evn.now _
          · refine Mth.Evn.congr (fun k => ?_) (Mth.Evn.now _)
            simp only [if_neg k0, if_neg k1, if_neg k2, if_neg k3, if_neg k4]
            rw [wrap_id (x := o - w) (by omega) (by omega), wrap_id (x := (o - w) * (o - w)) (by omega) (by omega), wrap_id (x := w * d) (by omega) (by omega), wrap_id (x := (o - w) * (o - w) + w * d) (by omega) (by omega)]
end
section
variable {w d o : Int} (ho : 1 ≤ o) (ho' : o ≤ 8) (hw : 0 ≤ w) (hw' : w ≤ o) (hd : 0 ≤ d) (hd' : d ≤ o)
include ho ho' hw hw' hd hd'
theorem pzFits_ev (kd a b : Int) : Mth.Evn (fun k => spec_pzFits.f k kd a b w d o) (fitsB w d o kd a b) := by
  unfold spec_pzFits.f fitsB
  refine (pzValue_ev ho ho' hw hw' hd hd' kd).bind ?_
  generalize clueVal w d o kd = v
  refine Mth.Evn.congr (fun k => ?_) (Mth.Evn.now _)
  obtain ⟨x, y, z⟩ := v
  cases z
  · simp
  · by_cases h : x = a
    · simp [h]
    · simp [h]
theorem fits_ev (kd a b : Int) : Mth.Evn (fun k => impl_Chain_fits.f k w d o kd a b) (fitsB w d o kd a b) := by
  unfold impl_Chain_fits.f fitsB
  refine (clue_ev ho ho' hw hw' hd hd' kd).bind ?_
  generalize clueVal w d o kd = v
  refine Mth.Evn.congr (fun k => ?_) (Mth.Evn.now _)
  obtain ⟨x, y, z⟩ := v
  cases z <;> simp
end
abbrev clueOk (kd a b : Int) : Prop := (0 ≤ a ∧ a ≤ 100) ∧ (0 ≤ b ∧ b ≤ 100) ∧ ((kd = 0 ∧ a = 0 ∧ b ≤ 1) ∨ ((kd = 1 ∨ kd = 2 ∨ kd = 5) ∧ a = 0) ∨ ((kd = 3 ∨ kd = 4) ∧ 1 ≤ b))
theorem pzClue_eq (k : Nat) (kd a b : Int) : spec_pzClue.f (k + 2) kd a b = some (decide (clueOk kd a b)) := by
  unfold clueOk
  simp only [spec_pzClue.f, spec_pzClue.j0, spec_pzClue.j1, l1In_eq, Option.bind_some]
  by_cases h2 : 0 ≤ a ∧ a ≤ 100
  · by_cases h3 : 0 ≤ b ∧ b ≤ 100
    · simp only [h2, h3, decide_true, if_true, Bool.not_true, Bool.false_eq_true, if_false, Option.bind_some, true_and, and_self]
      by_cases k0 : kd = 0
      · subst k0; by_cases h4 : a = 0
        · subst h4; simp; omega
        · simp [h4]
      · by_cases k1 : kd = 1
        · subst k1; simp
          by_cases h4 : a = 0 <;> simp [h4]
        · by_cases k2 : kd = 2
          · subst k2; simp
            by_cases h4 : a = 0 <;> simp [h4]
          · by_cases k5 : kd = 5
            · subst k5; simp
              by_cases h4 : a = 0 <;> simp [h4]
            · have k5' : (kd == 5) = false := by simpa using k5
              by_cases k3 : kd = 3
              · subst k3; simp; omega
              · by_cases k4 : kd = 4
                · subst k4; simp; omega
                · simp [k0, k1, k2, k3, k4, k5]
    · simp [h2, h3]
  · simp only [h2, decide_false, Bool.false_eq_true, if_false, false_and, if_true]
theorem IsClue_eq (k : Nat) (of kd a b : Int) : impl_IsClue.f (k + 1) of kd a b = some (decide ((1 ≤ of ∧ of ≤ 8) ∧ clueOk kd a b)) := by
  unfold clueOk
  unfold impl_IsClue.f impl_isTwo.f
  by_cases k3 : kd = 3
  · rw [if_pos k3]; simp only [Option.bind_some, if_true, impl_IsClue.j0, within_eq, ite_dec]
    exact some_dec (by omega)
  · rw [if_neg k3]
    by_cases k4 : kd = 4
    · have e : (kd == 4) = true := by simpa using k4
      simp only [e, Option.bind_some, if_true, impl_IsClue.j0, within_eq, ite_dec]
      exact some_dec (by omega)
    · have e : (kd == 4) = false := by simpa using k4
      rw [e]; simp only [Option.bind_some, Bool.false_eq_true, if_false]
      by_cases k0 : kd = 0
      · rw [if_pos k0]; simp only [impl_IsClue.j0, within_eq, Option.bind_some, ite_dec]
        exact some_dec (by omega)
      · rw [if_neg k0]; simp only [impl_IsClue.j0, within_eq, Option.bind_some, ite_dec]
        exact some_dec (by omega)
abbrev cvClue (x : S62) : S55 := ⟨x.f0, x.f1, x.f2⟩
theorem szPuzzle_eq (o : Int) (l : List S62) (hl : l.length ≤ 9223372036854775807) : laws_szPuzzle.f o l 1048576 = some (if l.length ≤ 1048576 then 1048576 - (l.length : Int) else -1) := by
  unfold laws_szPuzzle.f laws_szClueS.f
  have e : wrap64 (1048576 - (l.length : Int)) = 1048576 - (l.length : Int) := wrap_id (by omega) (by omega)
  rw [e]
  by_cases h : l.length ≤ 1048576
  · rw [if_neg (by omega)]; simp only [Option.bind_some]; rw [if_neg (by omega), if_pos h]
  · rw [if_pos (by omega)]; simp only [Option.bind_some]; rw [if_pos (by omega), if_neg h]
theorem rdl_get (xs : List S62) (i : Int) (h : i.toNat < xs.length) : rd_T62 xs i = xs[i.toNat] := by unfold rd_T62; rw [List.getD_eq_getElem?_getD, List.getElem?_eq_getElem h]; rfl
theorem toClueS_l0 (l : List S62) (hl : l.length ≤ 1048576) : ∀ (d : Nat) (i : Int) (out : List S55), 0 ≤ i → i + d = l.length → out.length = l.length → (∀ j : Nat, (j : Int) < i → out[j]? = (l.map cvClue)[j]?) →
    Mth.Evn (fun k => laws_toClueS.l0 k l out i) (l.map cvClue)
  | 0, i, out, h0, hi, ho, hs => by
    refine (Mth.Evn.now _).step fun k => ?_
    simp only [laws_toClueS.l0]; rw [if_neg (by omega)]
    congr 1
    apply List.ext_getElem?
    intro j
    by_cases hj : (j : Int) < i
    · exact hs j hj
    · rw [List.getElem?_eq_none (by omega), List.getElem?_eq_none (by simp; omega)]
  | d + 1, i, out, h0, hi, ho, hs => by
    refine (toClueS_l0 l hl d (i + 1) (out.set i.toNat (cvClue (rd_T62 l i))) (by omega) (by omega) (by simpa using ho) (fun j hj => ?_)).step fun k => ?_
    · by_cases e : j = i.toNat
      · subst e
        rw [List.getElem?_set_self (by omega), rdl_get l i (by omega), List.getElem?_map, List.getElem?_eq_getElem (by omega)]; rfl
      · rw [List.getElem?_set_ne (by omega)]; exact hs j (by omega)
    · simp only [laws_toClueS.l0]
      rw [if_pos (by omega), if_pos h0]
      simp only [laws_toClue.f, Option.bind_some]
      rw [if_pos (by omega), wrap_id (x := i + 1) (by omega) (by omega)]
theorem toClueS_ev (l : List S62) (hl : l.length ≤ 1048576) : Mth.Evn (fun k => laws_toClueS.f k l) (l.map cvClue) := by
  unfold laws_toClueS.f
  have e1 : (0 : Int) ≤ (l.length : Int) := by omega
  have e2 : ((l.length : Int) : Int).toNat ≤ 11728124029610 := by omega
  simp only [if_pos e1, if_pos e2]
  exact toClueS_l0 l hl l.length 0 (List.replicate ((l.length : Int) : Int).toNat _) (by omega) (by omega) (by simp) (fun j hj => by omega)
theorem toPuzzle_ev (o : Int) (l : List S62) (hl : l.length ≤ 1048576) : Mth.Evn (fun k => laws_toPuzzle.f k o l) (o, l.map cvClue) := by
  unfold laws_toPuzzle.f
  exact (toClueS_ev l hl).bind (Mth.Evn.now _)
theorem rdg_get (xs : List S55) (i : Int) (h : i.toNat < xs.length) : rd_T55 xs i = xs[i.toNat] := by unfold rd_T55; rw [List.getD_eq_getElem?_getD, List.getElem?_eq_getElem h]; rfl
theorem eqClueS_evn (xs : List S55) (hl : xs.length ≤ 1048576) : Mth.Evn (fun k => laws_eqClueS.f k xs xs) true := by
  have go : ∀ (d : Nat) (i : Int), 0 ≤ i → i + d = xs.length → Mth.Evn (fun k => laws_eqClueS.l0 k xs xs i) true := by
    intro d
    induction d with
    | zero =>
      intro i h0 hi
      refine (Mth.Evn.now _).step fun k => ?_
      simp only [laws_eqClueS.l0]; rw [if_neg (by omega)]
    | succ d ih =>
      intro i h0 hi
      refine (ih (i + 1) (by omega) (by omega)).step fun k => ?_
      simp only [laws_eqClueS.l0]
      rw [if_pos (by omega), if_pos h0, if_pos (by omega)]
      unfold laws_eqClue.f
      rw [if_pos rfl, if_pos rfl, if_pos rfl]
      simp only [Option.bind_some, if_true]
      rw [wrap_id (x := i + 1) (by omega) (by omega)]
  unfold laws_eqClueS.f
  refine Mth.Evn.congr (fun k => if_pos rfl) ?_
  exact go xs.length 0 (by omega) (by omega)
theorem eqPuzzle_evn (o : Int) (xs : List S55) (hl : xs.length ≤ 1048576) : Mth.Evn (fun k => laws_eqPuzzle.f k o xs o xs) true := by
  unfold laws_eqPuzzle.f
  refine Mth.Evn.congr (fun k => if_pos rfl) ?_
  exact (eqClueS_evn xs hl).bind (Mth.Evn.now _)
/-- What makes a puzzle. -/
def goodP (o : Int) (l : List S55) : Bool := decide (1 ≤ o ∧ o ≤ 8) && (decide (l.length ≤ 6) && l.all fun x => decide (clueOk x.f0 x.f1 x.f2))
theorem anyO_some (f : S55 → Option Bool) (p : S55 → Bool) : ∀ l : List S55, (∀ x, x ∈ l → f x = some (p x)) → anyO f l = some (l.any p)
  | [], _ => rfl
  | x :: xs, h => by
    simp only [anyO, h x (by simp), Option.bind_some, List.any_cons]
    cases e : p x with
    | true => simp
    | false => simpa using anyO_some f p xs (fun y hy => h y (by simp [hy]))
theorem IsPuzzle_evn (o : Int) (l : List S55) : Mth.Evn (fun k => impl_IsPuzzle.f k o l) (goodP o l) := by
  refine ⟨1, fun k hk => ?_⟩
  obtain ⟨k, rfl⟩ : ∃ j, k = j + 1 := ⟨k - 1, by omega⟩
  show impl_IsPuzzle.f (k + 1) o l = _
  unfold impl_IsPuzzle.f impl_Clue_36.f
  rw [within_eq]; simp only [Option.bind_some]
  unfold goodP
  by_cases ho : 1 ≤ o ∧ o ≤ 8
  · rw [decide_eq_true ho, if_pos rfl]
    by_cases hl : l.length ≤ 6
    · rw [if_pos (by omega), if_pos (by omega), anyO_some _ (fun x => !decide (clueOk x.f0 x.f1 x.f2)) l (fun x _ => ?_)]
      · simp only [Option.bind_some, decide_eq_true hl, Bool.true_and, List.not_any_eq_all_not, Bool.not_not]
      · rw [IsClue_eq]; simp [ho]
    · rw [if_neg (by omega), decide_eq_false hl]; simp
  · rw [decide_eq_false ho, if_neg (by simp)]; simp
theorem pzGood_l0 (l : List S55) (hl : l.length ≤ 6) : ∀ (d : Nat) (i : Int), 0 ≤ i → i + d = l.length →
    Mth.Evn (fun k => spec_pzGood.l0 k l (l.length : Int) i) ((l.drop i.toNat).all fun x => decide (clueOk x.f0 x.f1 x.f2))
  | 0, i, h0, hi => by
    rw [List.drop_eq_nil_of_le (by omega)]
    refine (Mth.Evn.now _).step fun k => ?_
    simp only [spec_pzGood.l0]; rw [if_neg (by omega)]; rfl
  | d + 1, i, h0, hi => by
    have hlt : i.toNat < l.length := by omega
    rw [List.drop_eq_getElem_cons hlt]
    have ih := pzGood_l0 l hl d (i + 1) (by omega) (by omega)
    rw [show (i + 1).toNat = i.toNat + 1 by omega] at ih
    have hq : Mth.Evn (fun k => spec_pzClue.f k ((rd_T55 l i).f0) ((rd_T55 l i).f1) ((rd_T55 l i).f2)) (decide (clueOk (l[i.toNat]).f0 (l[i.toNat]).f1 (l[i.toNat]).f2)) := by
      refine ⟨2, fun k hk => ?_⟩
      obtain ⟨k, rfl⟩ : ∃ j, k = j + 2 := ⟨k - 2, by omega⟩
      show spec_pzClue.f (k + 2) _ _ _ = _
      rw [pzClue_eq, rdg_get l i hlt]
    refine Mth.Evn.step (g := fun k => (spec_pzClue.f k ((rd_T55 l i).f0) ((rd_T55 l i).f1) ((rd_T55 l i).f2)).bind fun t => if t = true then spec_pzGood.l0 k l (l.length : Int) (i + 1) else some false) (fun k => ?_) (hq.bind ?_)
    · simp only [spec_pzGood.l0]
      rw [if_pos (by omega), if_pos h0, if_pos (by omega), wrap_id (x := i + 1) (by omega) (by omega)]
    · by_cases h : clueOk (l[i.toNat]).f0 (l[i.toNat]).f1 (l[i.toNat]).f2
      · simp only [List.all_cons, decide_eq_true h, if_true, Bool.true_and]; exact ih
      · simp only [List.all_cons, decide_eq_false h, Bool.false_and]
        exact Mth.Evn.congr (fun k => if_neg (by simp)) (Mth.Evn.now _)
theorem pzGood_evn (o : Int) (l : List S55) : Mth.Evn (fun k => spec_pzGood.f k o l) (goodP o l) := by
  have ep : spec_pzOf.f o = some (decide (1 ≤ o ∧ o ≤ 8)) := by unfold spec_pzOf.f; rw [l1In_eq]; rfl
  unfold spec_pzGood.f goodP
  rw [ep]; simp only [Option.bind_some]
  by_cases ho : 1 ≤ o ∧ o ≤ 8
  · rw [decide_eq_true ho]
    refine Mth.Evn.congr (fun k => if_pos rfl) ?_
    by_cases hl : l.length ≤ 6
    · refine Mth.Evn.step (g := fun k => spec_pzGood.l0 k l (l.length : Int) 0) (fun k => ?_) ?_
      · simp only [spec_pzGood.j0]; rw [decide_eq_false (by omega), if_neg (by simp)]
      · simpa [hl] using pzGood_l0 l hl l.length 0 (by omega) (by omega)
    · refine Mth.Evn.step (g := fun k => some false) (fun k => ?_) ?_
      · simp only [spec_pzGood.j0]; rw [decide_eq_true (by omega), if_pos rfl]
      · simpa [hl] using Mth.Evn.now false
  · rw [decide_eq_false ho]
    refine Mth.Evn.congr (fun k => if_neg (by simp)) ?_
    refine Mth.Evn.step (g := fun k => some false) (fun k => ?_) (by simpa using Mth.Evn.now false)
    simp only [spec_pzGood.j0]; rw [if_pos trivial]
/-- Whether a chain fits all clues. -/
def fitsAll (o : Int) (l : List S55) (w d : Int) : Bool := l.all fun x => fitsB w d o x.f0 x.f1 x.f2
def solRow (o : Int) (l : List S55) (w d : Int) : Nat → List S59
  | 0 => []
  | n + 1 => (if fitsAll o l w d then [⟨w, d, o⟩] else []) ++ solRow o l w (d + 1) n
def solAll (o : Int) (l : List S55) (w : Int) : Nat → List S59
  | 0 => []
  | n + 1 => solRow o l w 0 (o + 1).toNat ++ solAll o l (w + 1) n
/-- All hidden chains that fit some clues, in order. -/
def sols (o : Int) (l : List S55) : List S59 := solAll o l 0 (o + 1).toNat
theorem solRow_len (o : Int) (l : List S55) (w : Int) : ∀ (n : Nat) (d : Int), (solRow o l w d n).length ≤ n
  | 0, d => Nat.le_refl _
  | n + 1, d => by
    have := solRow_len o l w n (d + 1)
    simp only [solRow, List.length_append]
    split <;> simp <;> omega
theorem solAll_len (o : Int) (l : List S55) : ∀ (n : Nat) (w : Int), (solAll o l w n).length ≤ n * (o + 1).toNat
  | 0, w => Nat.zero_le _
  | n + 1, w => by
    have := solAll_len o l n (w + 1)
    have h2 := solRow_len o l w (o + 1).toNat 0
    simp only [solAll, List.length_append, Nat.succ_mul]; omega
theorem sols_len {o : Int} (ho : 1 ≤ o) (ho' : o ≤ 8) (l : List S55) : (sols o l).length ≤ 81 := by
  have h := solAll_len o l (o + 1).toNat 0
  have h2 : (o + 1).toNat ≤ 9 := by omega
  have h3 := Nat.mul_le_mul h2 h2
  exact Nat.le_trans h h3
section
variable {o : Int} (ho : 1 ≤ o) (ho' : o ≤ 8)
include ho ho'
theorem anyFits_ev (l : List S55) (hl : l.length ≤ 1000000) {w d : Int} (hw : 0 ≤ w) (hw' : w ≤ o) (hd : 0 ≤ d) (hd' : d ≤ o) : Mth.Evn (fun k => impl_Clue_46.f k l w d o) (!fitsAll o l w d) := by
  unfold impl_Clue_46.f fitsAll
  refine Mth.Evn.congr (fun k => if_pos hl) ?_
  clear hl
  induction l with
  | nil => exact Mth.Evn.now _
  | cons x xs ih =>
    simp only [anyO, List.all_cons]
    refine Mth.Evn.bind ((fits_ev ho ho' hw hw' hd hd' x.f0 x.f1 x.f2).bind (Mth.Evn.now _)) ?_
    cases e : fitsB w d o x.f0 x.f1 x.f2 with
    | true => exact Mth.Evn.congr (fun k => if_neg (by simp)) (by simpa using ih)
    | false => exact Mth.Evn.congr (fun k => if_pos rfl) (Mth.Evn.now _)
theorem implRow_ev (l : List S55) (hl : l.length ≤ 1000000) {w : Int} (hw : 0 ≤ w) (hw' : w ≤ o) (x10 x11 : Int) (R : List S59) : ∀ (n : Nat) (d : Int) (x5 : List S59), 0 ≤ d → d + n = o + 1 → x5.length + n ≤ 1000000 →
    Mth.Evn (fun k => impl_solutions.l0 k o l (x5 ++ solRow o l w d n) x10 (wrap64 (x11 + 1))) R → Mth.Evn (fun k => impl_solutions.l1 k o l x5 w x10 x11 (o + 1) d) R
  | 0, d, x5, hd, hn, hx, h => by
    refine Mth.Evn.step (fun k => ?_) h
    simp only [impl_solutions.l1]; rw [if_neg (by omega)]; simp [solRow]
  | n + 1, d, x5, hd, hn, hx, h => by
    refine Mth.Evn.step (g := fun k => (impl_Clue_46.f k l w d o).bind fun t => if t = true then impl_solutions.l1 k o l x5 w x10 x11 (o + 1) (d + 1) else if x5.length < 5864062014805 then impl_solutions.l1 k o l (x5 ++ [(⟨w, d, o⟩ : S59)]) w x10 x11 (o + 1) (d + 1) else none) (fun k => ?_) ((anyFits_ev ho ho' l hl hw hw' hd (by omega)).bind ?_)
    · simp only [impl_solutions.l1]; rw [if_pos (by omega), wrap_id (x := d + 1) (by omega) (by omega)]
    · cases e : fitsAll o l w d with
      | false =>
        refine Mth.Evn.congr (fun k => if_pos rfl) (implRow_ev l hl hw hw' x10 x11 R n (d + 1) x5 (by omega) (by omega) (by omega) ?_)
        simpa [solRow, e] using h
      | true =>
        refine Mth.Evn.congr (fun k => (if_neg (by simp)).trans (if_pos (by omega))) (implRow_ev l hl hw hw' x10 x11 R n (d + 1) (x5 ++ [⟨w, d, o⟩]) (by omega) (by omega) (by simp; omega) ?_)
        simpa [solRow, e] using h
theorem implAll_ev (l : List S55) (hl : l.length ≤ 1000000) : ∀ (n : Nat) (w : Int) (x5 : List S59), 0 ≤ w → w + n = o + 1 → x5.length + n * 9 ≤ 900000 →
    Mth.Evn (fun k => impl_solutions.l0 k o l x5 (o + 1) w) (x5 ++ solAll o l w n)
  | 0, w, x5, hw, hn, hx => by
    refine (Mth.Evn.now _).step fun k => ?_
    simp only [impl_solutions.l0]; rw [if_neg (by omega)]; simp [solAll]
  | n + 1, w, x5, hw, hn, hx => by
    have hr := solRow_len o l w (o + 1).toNat 0
    have ih := implAll_ev l hl n (w + 1) (x5 ++ solRow o l w 0 (o + 1).toNat) (by omega) (by omega) (by simp only [List.length_append]; omega)
    refine Mth.Evn.step (fun k => ?_) (implRow_ev ho ho' l hl hw (by omega) (o + 1) w (n := (o + 1).toNat) (d := 0) (x5 := x5) (by omega) (by omega) (by omega) (R := x5 ++ solAll o l w (n + 1)) ?_)
    · simp only [impl_solutions.l0]; rw [if_pos (by omega), wrap_id (x := o + 1) (by omega) (by omega)]
    · rw [wrap_id (x := w + 1) (by omega) (by omega)]
      simpa [solAll] using ih
theorem solutions_ev (l : List S55) (hl : l.length ≤ 1000000) : Mth.Evn (fun k => impl_solutions.f k o l) (sols o l) := by
  unfold impl_solutions.f
  have h := implAll_ev ho ho' l hl (o + 1).toNat 0 [] (by omega) (by omega) (by simp; omega)
  rw [wrap_id (x := o + 1) (by omega) (by omega)]
  exact h
theorem specFit_ev (l : List S55) (hl : l.length ≤ 1000000) {w d : Int} (hw : 0 ≤ w) (hw' : w ≤ o) (hd : 0 ≤ d) (hd' : d ≤ o) (x5 : List S59) (hx : x5.length ≤ 1000000) (R : List S59) : ∀ (n : Nat) (i : Int) (b : Bool), 0 ≤ i → i + n = l.length →
    Mth.Evn (fun k => spec_pzAll.l1 k o l (x5 ++ if (b && (l.drop i.toNat).all fun x => fitsB w d o x.f0 x.f1 x.f2) = true then [⟨w, d, o⟩] else []) w (d + 1)) R → Mth.Evn (fun k => spec_pzAll.l2 k o l x5 w d b l (l.length : Int) i w d o) R
  | 0, i, b, h0, hi, h => by
    rw [List.drop_eq_nil_of_le (by omega)] at h
    refine Mth.Evn.step (fun k => ?_) h
    simp only [spec_pzAll.l2]; rw [if_neg (by omega), wrap_id (x := d + 1) (by omega) (by omega)]
    cases b with
    | true => rw [if_pos rfl, if_pos (by omega)]; simp
    | false => rw [if_neg (by simp)]; simp
  | n + 1, i, b, h0, hi, h => by
    have hlt : i.toNat < l.length := by omega
    rw [List.drop_eq_getElem_cons hlt] at h
    have hi1 : (i + 1).toNat = i.toNat + 1 := by omega
    cases b with
    | false =>
      refine Mth.Evn.step (fun k => ?_) (specFit_ev l hl hw hw' hd hd' x5 hx R n (i + 1) false (by omega) (by omega) (by simp only [Bool.false_and] at h ⊢; exact h))
      simp only [spec_pzAll.l2]; rw [if_pos (by omega), if_pos h0, if_pos (by omega), if_neg (by simp), wrap_id (x := i + 1) (by omega) (by omega)]
    | true =>
      refine Mth.Evn.step (g := fun k => (spec_pzFits.f k ((rd_T55 l i).f0) ((rd_T55 l i).f1) ((rd_T55 l i).f2) w d o).bind fun t => spec_pzAll.l2 k o l x5 w d t l (l.length : Int) (i + 1) w d o) (fun k => ?_) (Mth.Evn.bind (by rw [rdg_get l i hlt]; exact pzFits_ev ho ho' hw hw' hd hd' _ _ _) (specFit_ev l hl hw hw' hd hd' x5 hx R n (i + 1) _ (by omega) (by omega) ?_))
      · simp only [spec_pzAll.l2]; rw [if_pos (by omega), if_pos h0, if_pos (by omega), if_pos trivial, wrap_id (x := i + 1) (by omega) (by omega)]
      · rw [hi1]; simp only [List.all_cons, Bool.true_and] at h; exact h
theorem specRow_ev (l : List S55) (hl : l.length ≤ 1000000) {w : Int} (hw : 0 ≤ w) (hw' : w ≤ o) (R : List S59) : ∀ (n : Nat) (d : Int) (x5 : List S59), 0 ≤ d → d + n = o + 1 → x5.length + n ≤ 1000000 →
    Mth.Evn (fun k => spec_pzAll.l0 k o l (x5 ++ solRow o l w d n) (w + 1)) R → Mth.Evn (fun k => spec_pzAll.l1 k o l x5 w d) R
  | 0, d, x5, hd, hn, hx, h => by
    refine Mth.Evn.step (fun k => ?_) h
    simp only [spec_pzAll.l1]; rw [if_neg (by omega), wrap_id (x := w + 1) (by omega) (by omega)]; simp [solRow]
  | n + 1, d, x5, hd, hn, hx, h => by
    refine Mth.Evn.step (g := fun k => spec_pzAll.l2 k o l x5 w d true l (l.length : Int) 0 w d o) (fun k => ?_) (specFit_ev ho ho' l hl hw hw' hd (by omega) x5 (by omega) R l.length 0 true (by omega) (by omega) ?_)
    · simp only [spec_pzAll.l1]; rw [if_pos (by omega)]
    · have e : (true && (l.drop (0 : Int).toNat).all fun x => fitsB w d o x.f0 x.f1 x.f2) = fitsAll o l w d := by simp [fitsAll]
      rw [e]
      refine specRow_ev l hl hw hw' R n (d + 1) _ (by omega) (by omega) (by split <;> simp <;> omega) ?_
      simpa [solRow] using h
theorem specAll_ev (l : List S55) (hl : l.length ≤ 1000000) : ∀ (n : Nat) (w : Int) (x5 : List S59), 0 ≤ w → w + n = o + 1 → x5.length + n * 9 ≤ 900000 →
    Mth.Evn (fun k => spec_pzAll.l0 k o l x5 w) (x5 ++ solAll o l w n)
  | 0, w, x5, hw, hn, hx => by
    refine (Mth.Evn.now _).step fun k => ?_
    simp only [spec_pzAll.l0]; rw [if_neg (by omega)]; simp [solAll]
  | n + 1, w, x5, hw, hn, hx => by
    have hr := solRow_len o l w (o + 1).toNat 0
    have ih := specAll_ev l hl n (w + 1) (x5 ++ solRow o l w 0 (o + 1).toNat) (by omega) (by omega) (by simp only [List.length_append]; omega)
    refine Mth.Evn.step (fun k => ?_) (specRow_ev ho ho' l hl hw (by omega) (x5 ++ solAll o l w (n + 1)) (o + 1).toNat 0 x5 (by omega) (by omega) (by omega) ?_)
    · simp only [spec_pzAll.l0]; rw [if_pos (by omega)]
    · simpa [solAll] using ih
theorem pzAll_ev (l : List S55) (hl : l.length ≤ 1000000) : Mth.Evn (fun k => spec_pzAll.f k o l) (sols o l) := by
  unfold spec_pzAll.f
  exact specAll_ev ho ho' l hl (o + 1).toNat 0 [] (by omega) (by omega) (by simp; omega)
end
theorem goodP_of {o : Int} {l : List S55} (h : goodP o l = true) : 1 ≤ o ∧ o ≤ 8 ∧ l.length ≤ 6 := by
  unfold goodP at h
  simp only [Bool.and_eq_true, decide_eq_true_eq] at h
  exact ⟨h.1.1, h.1.2, h.2.1⟩
theorem specCount_ev (o : Int) (l : List S55) {α : Type} (F : List S59 → α) (z r : α) (hr : r = if goodP o l = true then F (sols o l) else z) : Mth.Evn (fun k => (spec_pzGood.f k o l).bind fun t => if t = true then (spec_pzAll.f k o l).bind fun u => some (F u) else some z) r := by
  subst hr
  refine (pzGood_evn _ _).bind ?_
  cases h : goodP o l with
  | true =>
    obtain ⟨h1, h2, h3⟩ := goodP_of h
    exact Mth.Evn.congr (fun k => if_pos rfl) ((pzAll_ev h1 h2 _ (by omega)).bind (Mth.Evn.now _))
  | false => exact Mth.Evn.congr (fun k => if_neg (by simp)) (Mth.Evn.now _)
theorem law_end (o : Int) (l : List S62) (hl : l.length ≤ 1048576) : Mth.Evn (fun k => (laws_toPuzzle.f k o l).bind fun b => (laws_eqPuzzle.f k o (l.map cvClue) b.1 b.2).bind fun t => if t = true then some true else some false) true := by
  refine (toPuzzle_ev o l hl).bind ((eqPuzzle_evn _ _ (by simpa using hl)).bind ?_)
  exact Mth.Evn.congr (fun k => if_pos rfl) (Mth.Evn.now _)
theorem rds_get (xs : List S59) (i : Int) (h : i.toNat < xs.length) : rd_T59 xs i = xs[i.toNat] := by unfold rd_T59; rw [List.getD_eq_getElem?_getD, List.getElem?_eq_getElem h]; rfl
theorem Solutions_evn (o : Int) (l : List S55) : Mth.Evn (fun k => impl_Solutions.f k o l) (if goodP o l = true then sols o l else [], goodP o l) := by
  unfold impl_Solutions.f
  refine (IsPuzzle_evn o l).bind ?_
  cases h : goodP o l with
  | true =>
    obtain ⟨h1, h2, h3⟩ := goodP_of h
    exact Mth.Evn.congr (fun k => if_pos rfl) ((solutions_ev h1 h2 l (by omega)).bind (Mth.Evn.now _))
  | false => exact Mth.Evn.congr (fun k => if_neg (by simp)) (Mth.Evn.now _)
theorem rdc_get (xs : List S55) (i : Int) (h : i.toNat < xs.length) : rd_T55 xs i = xs[i.toNat] := by unfold rd_T55; rw [List.getD_eq_getElem?_getD, List.getElem?_eq_getElem h]; rfl
theorem rdc_set (xs : List S55) (i : Int) (v : S55) (h : i.toNat < xs.length) : rd_T55 (xs.set i.toNat v) i = v := by
  rw [rdc_get _ _ (by simpa using h)]; simp
theorem rdc_set_ne (xs : List S55) (i j : Int) (v : S55) (h : i.toNat ≠ j.toNat) : rd_T55 (xs.set i.toNat v) j = rd_T55 xs j := by
  unfold rd_T55; rw [List.getD_eq_getElem?_getD, List.getD_eq_getElem?_getD, List.getElem?_set_ne h]
theorem eqClueS_ev (xs : List S55) (hl : xs.length ≤ 1048576) : Mth.Evn (fun k => laws_eqClueS.f k xs xs) true := by
  have go : ∀ (d : Nat) (i : Int), 0 ≤ i → i + d = xs.length → Mth.Evn (fun k => laws_eqClueS.l0 k xs xs i) true := by
    intro d
    induction d with
    | zero =>
      intro i h0 hi
      refine (Mth.Evn.now _).step fun k => ?_
      simp only [laws_eqClueS.l0]; rw [if_neg (by omega)]
    | succ d ih =>
      intro i h0 hi
      refine (ih (i + 1) (by omega) (by omega)).step fun k => ?_
      simp only [laws_eqClueS.l0]
      rw [if_pos (by omega), if_pos h0, if_pos (by omega)]
      unfold laws_eqClue.f
      rw [if_pos rfl, if_pos rfl, if_pos rfl]
      simp only [Option.bind_some, if_true]
      rw [wrap_id (x := i + 1) (by omega) (by omega)]
  unfold laws_eqClueS.f
  refine Mth.Evn.congr (fun k => if_pos rfl) ?_
  exact go xs.length 0 (by omega) (by omega)
theorem markClueS_l0 : ∀ (d : Nat) (xs : List S55) (m i : Int), xs.length ≤ 1048576 → 0 ≤ i → i + d = xs.length → 0 ≤ m → m + 3 * d ≤ 4000000 →
    ∃ r : List S55, r.length = xs.length ∧ (∀ j : Int, 0 ≤ j → j < i → rd_T55 r j = rd_T55 xs j) ∧ (∀ j : Int, i ≤ j → j < xs.length → rd_T55 r j = ⟨m + 3 * (j - i), m + 3 * (j - i) + 1, m + 3 * (j - i) + 2⟩) ∧
      Mth.Evn (fun k => laws_markClueS.l0 k xs m i) (m + 3 * d, r)
  | 0, xs, m, i, hx, h0, hi, hm, hb => by
    refine ⟨xs, rfl, fun j _ _ => rfl, fun j h1 h2 => by omega, ?_⟩
    refine (Mth.Evn.now _).step fun k => ?_
    simp only [laws_markClueS.l0]; rw [if_neg (by omega)]
    simp
  | d + 1, xs, m, i, hx, h0, hi, hm, hb => by
    have hlt : i.toNat < xs.length := by omega
    obtain ⟨r, hr, hlo, hhi, hev⟩ := markClueS_l0 d (xs.set i.toNat ⟨m, m + 1, m + 2⟩) (m + 3) (i + 1) (by simpa using hx) (by omega) (by simp; omega) (by omega) (by omega)
    refine ⟨r, by simpa using hr, fun j h1 h2 => ?_, fun j h1 h2 => ?_, ?_⟩
    · rw [hlo j h1 (by omega), rdc_set_ne _ _ _ _ (by omega)]
    · by_cases e : j = i
      · subst e
        rw [hlo j h0 (by omega), rdc_set _ _ _ hlt]
        simp
      · rw [hhi j (by omega) (by simpa using h2), show m + 3 + 3 * (j - (i + 1)) = m + 3 * (j - i) by omega]
    · rw [show m + 3 * ((d + 1 : Nat) : Int) = m + 3 + 3 * (d : Int) by omega]
      refine hev.step fun k => ?_
      simp only [laws_markClueS.l0]
      rw [if_pos (by omega), if_pos h0]
      simp only [Option.bind_some]
      rw [rdc_set _ _ _ hlt, rdc_set _ _ _ (by simpa using hlt), List.set_set, List.set_set, wrap_id (x := m + 1) (by omega) (by omega), wrap_id (x := m + 1 + 1) (by omega) (by omega), wrap_id (x := m + 1 + 1 + 1) (by omega) (by omega), wrap_id (x := i + 1) (by omega) (by omega), show m + 1 + 1 = m + 2 by omega, show m + 2 + 1 = m + 3 by omega]
theorem heldClueS_l0 (r : List S55) (m0 : Int) (hgood : ∀ j : Int, 0 ≤ j → j < r.length → rd_T55 r j = ⟨m0 + 3 * j, m0 + 3 * j + 1, m0 + 3 * j + 2⟩) (hm : 0 ≤ m0) (hb : m0 + 3 * r.length ≤ 4000000) : ∀ (d : Nat) (i : Int), 0 ≤ i → i + d = r.length →
    Mth.Evn (fun k => laws_heldClueS.l0 k r (m0 + 3 * i) i) (m0 + 3 * r.length)
  | 0, i, h0, hi => by
    refine (Mth.Evn.now _).step fun k => ?_
    simp only [laws_heldClueS.l0]; rw [if_neg (by omega)]
    congr 1; omega
  | d + 1, i, h0, hi => by
    have ih := heldClueS_l0 r m0 hgood hm hb d (i + 1) (by omega) (by omega)
    refine ih.step fun k => ?_
    simp only [laws_heldClueS.l0]
    rw [if_pos (by omega), if_pos h0, hgood i h0 (by omega)]
    rw [wrap_id (x := m0 + 3 * i + 1) (by omega) (by omega), wrap_id (x := m0 + 3 * i + 1 + 1) (by omega) (by omega), wrap_id (x := m0 + 3 * i + 1 + 1 + 1) (by omega) (by omega), wrap_id (x := i + 1) (by omega) (by omega)]
    simp only
    rw [if_pos trivial, if_pos trivial, if_pos (by omega), show m0 + 3 * i + 1 + 1 + 1 = m0 + 3 * (i + 1) by omega]
/-- What is marked is held. -/
theorem mark_held_clue (xs : List S55) (hl : xs.length ≤ 1048576) :
    ∃ r : List S55, Mth.Evn (fun k => laws_markClueS.f k xs 1) (1 + 3 * xs.length, r) ∧ Mth.Evn (fun k => laws_heldClueS.f k r 1) (1 + 3 * xs.length) := by
  obtain ⟨r, hr, _, hhi, hev⟩ := markClueS_l0 xs.length xs 1 0 hl (by omega) (by omega) (by omega) (by omega)
  refine ⟨r, hev, ?_⟩
  have := heldClueS_l0 r 1 (fun j h1 h2 => by rw [hhi j h1 (by omega)]; simp) (by omega) (by omega) r.length 0 (by omega) (by omega)
  rw [hr] at this
  exact this
theorem eqPuzzle_ev (o : Int) (xs : List S55) (hl : xs.length ≤ 1048576) : Mth.Evn (fun k => laws_eqPuzzle.f k o xs o xs) true := by
  unfold laws_eqPuzzle.f
  refine Mth.Evn.congr (fun k => if_pos rfl) ?_
  exact (eqClueS_ev xs hl).bind (Mth.Evn.now _)
theorem mark_held_puzzle (o : Int) (xs : List S55) (hl : xs.length ≤ 1048576) :
    ∃ (m : Int) (r : List S55), 0 ≤ m ∧ Mth.Evn (fun k => laws_markPuzzle.f k o xs 1) (m, r) ∧ Mth.Evn (fun k => laws_heldPuzzle.f k o r 1) m := by
  obtain ⟨r, h1, h2⟩ := mark_held_clue xs hl
  refine ⟨1 + 3 * xs.length, r, by omega, ?_, ?_⟩
  · unfold laws_markPuzzle.f
    exact h1.bind (Mth.Evn.now _)
  · unfold laws_heldPuzzle.f
    refine h2.bind ?_
    refine Mth.Evn.congr (fun k => ?_) (Mth.Evn.now _)
    rw [if_neg (by omega)]
/-- A puzzle's clues without one. -/
def wout (l : List S55) (k : Int) : List S55 := l.take k.toNat ++ l.drop (k + 1).toNat
theorem wout_len (l : List S55) (k : Int) : (wout l k).length ≤ l.length + l.length := by
  simp only [wout, List.length_append, List.length_take, List.length_drop]; omega
theorem pzWithout_eq (l : List S55) (k : Int) (hl : l.length ≤ 1000) (h0 : 0 ≤ k) (h1 : k < l.length) : spec_pzWithout.f l k = some (wout l k) := by
  unfold spec_pzWithout.f wout
  simp only [Option.bind_some, List.nil_append]
  rw [wrap_id (x := k + 1) (by omega) (by omega), if_pos h0, if_pos (by omega), if_pos (by simp only [List.length_take, List.length_nil]; omega), if_pos (by omega), if_pos (by omega), if_pos (by simp only [List.length_take, List.length_drop]; omega)]
theorem without_eq (l : List S55) (k : Int) (hl : l.length ≤ 1000) (h0 : 0 ≤ k) (h1 : k < l.length) : impl_without.f l k = some (wout l k) := by
  unfold impl_without.f impl_Clue_39.f wout
  rw [wrap_id (x := k + 1) (by omega) (by omega), if_pos h0, if_pos (by omega), if_pos (by omega), if_pos (by omega), if_pos (by simp only [List.length_take, List.length_drop]; omega)]
  rfl
theorem clone_eq (l : List S55) (hl : l.length ≤ 1048576) : impl_Clue_29.f l = some l := by
  unfold impl_Clue_29.f
  simp only [Option.bind_some, List.nil_append]
  rw [if_pos (by simp; omega)]
/-- The clues left when those are struck, from the k-th on, without which there still is one solution. -/
def hard (o : Int) : Nat → List S55 → Int → List S55
  | 0, l, _ => l
  | n + 1, l, k => if ((sols o (wout l k)).length : Int) = 1 then hard o n (wout l k) k else hard o n l (k + 1)
theorem wout_eq_len (l : List S55) (k : Int) (h0 : 0 ≤ k) (h1 : k < l.length) : (wout l k).length + 1 = l.length := by
  simp only [wout, List.length_append, List.length_take, List.length_drop]; omega
theorem hard_len (o : Int) : ∀ (n : Nat) (l : List S55) (k : Int), 0 ≤ k → k + n = l.length → (hard o n l k).length ≤ l.length
  | 0, l, k, _, _ => Nat.le_refl _
  | n + 1, l, k, h0, h1 => by
    have hw := wout_eq_len l k h0 (by omega)
    simp only [hard]
    split
    · have := hard_len o n (wout l k) k h0 (by omega); omega
    · have := hard_len o n l (k + 1) (by omega) (by omega); omega
theorem implHardLoop {o : Int} (ho : 1 ≤ o) (ho' : o ≤ 8) (l0 : List S55) : ∀ (n : Nat) (l : List S55) (i : Int), l.length ≤ 6 → 0 ≤ i → i + n = l.length → Mth.Evn (fun k => impl_HarderPuzzle.l0 k l i o l0) (o, hard o n l i, true)
  | 0, l, i, hl, h0, hi => by
    refine (Mth.Evn.now _).step fun k => ?_
    simp only [impl_HarderPuzzle.l0]; rw [if_neg (by omega)]; rfl
  | n + 1, l, i, hl, h0, hi => by
    have hwl := wout_eq_len l i h0 (by omega)
    have hs := solutions_ev ho ho' (wout l i) (by omega)
    have e : hard o (n + 1) l i = if ((sols o (wout l i)).length : Int) = 1 then hard o n (wout l i) i else hard o n l (i + 1) := rfl
    rw [e]
    refine Mth.Evn.step (g := fun k => (impl_solutions.f k o (wout l i)).bind fun t => if (t.length : Int) = 1 then impl_HarderPuzzle.l0 k (wout l i) i o l0 else impl_HarderPuzzle.l0 k l (i + 1) o l0) (fun k => ?_) (hs.bind ?_)
    · simp only [impl_HarderPuzzle.l0]
      rw [if_pos (by omega), without_eq l i (by omega) h0 (by omega), wrap_id (x := i + 1) (by omega) (by omega)]; rfl
    · by_cases h : ((sols o (wout l i)).length : Int) = 1
      · rw [if_pos h]
        refine Mth.Evn.congr (fun k => if_pos (by simpa using h)) (implHardLoop ho ho' l0 n (wout l i) i (by omega) h0 (by omega))
      · rw [if_neg h]
        refine Mth.Evn.congr (fun k => if_neg (by simpa using h)) (implHardLoop ho ho' l0 n l (i + 1) hl (by omega) (by omega))
theorem solved_ev {o : Int} (ho : 1 ≤ o) (ho' : o ≤ 8) (l : List S55) (hl : l.length ≤ 1000000) : Mth.Evn (fun k => spec_pzSolved.f k o l) (((sols o l).length : Int) == 1) := by
  unfold spec_pzSolved.f
  exact (pzAll_ev ho ho' l hl).bind (Mth.Evn.now _)
theorem specHardLoop {o : Int} (ho : 1 ≤ o) (ho' : o ≤ 8) (l0 : List S55) : ∀ (n : Nat) (l : List S55) (i : Int), l.length ≤ 6 → 0 ≤ i → i + n = l.length → Mth.Evn (fun k => spec_HarderPuzzle.l0 k l i o l0) (o, hard o n l i, true)
  | 0, l, i, hl, h0, hi => by
    refine (Mth.Evn.now _).step fun k => ?_
    simp only [spec_HarderPuzzle.l0]; rw [if_neg (by omega)]; rfl
  | n + 1, l, i, hl, h0, hi => by
    have hwl := wout_eq_len l i h0 (by omega)
    have hs := solved_ev ho ho' (wout l i) (by omega)
    have e : hard o (n + 1) l i = if ((sols o (wout l i)).length : Int) = 1 then hard o n (wout l i) i else hard o n l (i + 1) := rfl
    rw [e]
    refine Mth.Evn.step (g := fun k => (spec_pzSolved.f k o (wout l i)).bind fun t => if t = true then spec_HarderPuzzle.l0 k (wout l i) i o l0 else spec_HarderPuzzle.l0 k l (i + 1) o l0) (fun k => ?_) (hs.bind ?_)
    · simp only [spec_HarderPuzzle.l0]
      rw [if_pos (by omega), pzWithout_eq l i (by omega) h0 (by omega), wrap_id (x := i + 1) (by omega) (by omega)]; rfl
    · by_cases h : ((sols o (wout l i)).length : Int) = 1
      · rw [if_pos h]
        refine Mth.Evn.congr (fun k => if_pos (by simpa using h)) (specHardLoop ho ho' l0 n (wout l i) i (by omega) h0 (by omega))
      · rw [if_neg h]
        refine Mth.Evn.congr (fun k => if_neg (by simpa using h)) (specHardLoop ho ho' l0 n l (i + 1) hl (by omega) (by omega))
/-- The harder puzzle. -/
def hardEnd (o : Int) (l : List S55) : Int × List S55 × Bool := if goodP o l = true ∧ ((sols o l).length : Int) = 1 then (o, hard o l.length l 0, true) else (0, [], false)
theorem hardEnd_len (o : Int) (l : List S55) : (hardEnd o l).2.1.length ≤ 1000 := by
  unfold hardEnd
  split
  · rename_i h
    obtain ⟨_, _, h3⟩ := goodP_of h.1
    have := hard_len o l.length l 0 (by omega) (by omega)
    show (hard o l.length l 0).length ≤ 1000
    omega
  · simp
theorem specHard_ev (o : Int) (l : List S55) : Mth.Evn (fun k => spec_HarderPuzzle.f k o l) (hardEnd o l) := by
  unfold spec_HarderPuzzle.f
  refine (pzGood_evn _ _).bind ?_
  cases h : goodP o l with
  | true =>
    obtain ⟨h1, h2, h3⟩ := goodP_of h
    refine Mth.Evn.congr (fun k => if_pos rfl) ((solved_ev h1 h2 l (by omega)).bind ?_)
    by_cases q : ((sols o l).length : Int) = 1
    · have hv : hardEnd o l = (o, hard o l.length l 0, true) := by unfold hardEnd; rw [if_pos ⟨h, q⟩]
      rw [hv]
      refine Mth.Evn.step (fun k => ?_) (specHardLoop h1 h2 l l.length l 0 h3 (by omega) (by omega))
      simp only [spec_HarderPuzzle.j0, Option.bind_some, List.nil_append]
      rw [if_neg (by simpa using q), if_pos (by simp; omega)]
    · have hv : hardEnd o l = (0, [], false) := by unfold hardEnd; rw [if_neg (fun z => q z.2)]
      rw [hv]
      refine Mth.Evn.step (g := fun _ => some (0, [], false)) (fun k => ?_) (Mth.Evn.now _)
      simp only [spec_HarderPuzzle.j0]; rw [if_pos (by simpa using q)]
  | false =>
    have hv : hardEnd o l = (0, [], false) := by unfold hardEnd; rw [if_neg (fun z => by have := z.1; rw [h] at this; cases this)]
    rw [hv]
    refine Mth.Evn.congr (fun k => if_neg (by simp)) ?_
    refine Mth.Evn.step (g := fun _ => some (0, [], false)) (fun k => ?_) (Mth.Evn.now _)
    simp only [spec_HarderPuzzle.j0]; rw [if_pos trivial]
theorem implHard_ev (o : Int) (l : List S55) : Mth.Evn (fun k => impl_HarderPuzzle.f k o l) (hardEnd o l) := by
  have hi : Mth.Evn (fun k => impl_IsSolved.f k o l) (if goodP o l = true then ((sols o l).length : Int) == 1 else false, goodP o l) := by
    unfold impl_IsSolved.f
    refine (Solutions_evn _ _).bind ?_
    cases h : goodP o l <;> exact Mth.Evn.now _
  unfold impl_HarderPuzzle.f
  refine hi.bind ?_
  cases h : goodP o l with
  | true =>
    obtain ⟨h1, h2, h3⟩ := goodP_of h
    by_cases q : ((sols o l).length : Int) = 1
    · have hv : hardEnd o l = (o, hard o l.length l 0, true) := by unfold hardEnd; rw [if_pos ⟨h, q⟩]
      rw [hv]
      refine Mth.Evn.congr (fun k => if_pos (by simpa using q)) ?_
      rw [clone_eq l (by omega)]; simp only [Option.bind_some]
      exact implHardLoop h1 h2 l l.length l 0 h3 (by omega) (by omega)
    · have hv : hardEnd o l = (0, [], false) := by unfold hardEnd; rw [if_neg (fun z => q z.2)]
      rw [hv]
      exact Mth.Evn.congr (fun k => if_neg (by simpa using q)) (Mth.Evn.now _)
  | false =>
    have hv : hardEnd o l = (0, [], false) := by unfold hardEnd; rw [if_neg (fun z => by have := z.1; rw [h] at this; cases this)]
    rw [hv]
    exact Mth.Evn.congr (fun k => if_neg (by simp)) (Mth.Evn.now _)
theorem holds (a0_0 : Int) (l0_1 : List S62) (w0_0 : (Lit.int .i64 a0_0).wf = true) (w0_1 : l0_1.length ≤ 9223372036854775807) : ∃ k, laws_FnExactHarderPuzzle.f k a0_0 l0_1 = some true := by
  have hE : Mth.Evn (fun k => laws_FnExactHarderPuzzle.f k a0_0 l0_1) true := by
    unfold laws_FnExactHarderPuzzle.f
    rw [szPuzzle_eq _ _ w0_1]; simp only [Option.bind_some]
    by_cases hl : l0_1.length ≤ 1048576
    · rw [if_pos hl]
      refine Mth.Evn.congr (fun k => if_neg (by omega)) ?_
      have ht := toPuzzle_ev a0_0 l0_1 hl
      have hlm : (l0_1.map cvClue).length ≤ 1048576 := by simpa using hl
      obtain ⟨⟨p, L, b⟩, hL, hs, hi⟩ : ∃ r : Int × List S55 × Bool, r.2.1.length ≤ 1000 ∧ Mth.Evn (fun k => spec_HarderPuzzle.f k a0_0 (l0_1.map cvClue)) r ∧ Mth.Evn (fun k => impl_HarderPuzzle.f k a0_0 (l0_1.map cvClue)) r :=
        ⟨_, hardEnd_len _ _, specHard_ev _ _, implHard_ev _ _⟩
      have hL' : L.length ≤ 1048576 := Nat.le_trans hL (by omega)
      have he := eqPuzzle_ev p L hL'
      obtain ⟨m1, r1, hm1, hm, _⟩ := mark_held_puzzle a0_0 (l0_1.map cvClue) hlm
      obtain ⟨m2, r2, hm0, hm2, hh2⟩ := mark_held_puzzle p L hL'
      refine ht.bind (hs.bind (ht.bind (hi.bind (he.bind ?_))))
      refine Mth.Evn.congr (fun k => if_pos rfl) ?_
      have e1 : (b != b) = false := by simp
      simp only [e1]
      have j2 : Mth.Evn (fun k => laws_FnExactHarderPuzzle.j2 k m2 false p r2) true := by
        refine Mth.Evn.step (g := fun k => (laws_heldPuzzle.f k p r2 1).bind fun t => if t < 0 then some false else if t = m2 then some true else some false) (fun k => ?_) (hh2.bind ?_)
        · simp only [laws_FnExactHarderPuzzle.j2]; rw [if_neg (by simp)]
        · exact Mth.Evn.congr (fun k => (if_neg (by omega)).trans (if_pos rfl)) (Mth.Evn.now _)
      have j1 : Mth.Evn (fun k => laws_FnExactHarderPuzzle.j1 k b false a0_0 l0_1 p L p L) true := by
        refine Mth.Evn.step (g := fun k => (laws_markPuzzle.f k p L 1).bind fun q => (laws_heldPuzzle.f k p q.2 1).bind fun t => if t < 0 then some false else if t = q.1 then (laws_toPuzzle.f k a0_0 l0_1).bind fun x => (impl_HarderPuzzle.f k x.1 x.2).bind fun y => (laws_eqPuzzle.f k y.1 y.2.1 p L).bind fun u => if u = true then laws_FnExactHarderPuzzle.j2 k q.1 (y.2.2 != b) p q.2 else laws_FnExactHarderPuzzle.j2 k q.1 true p q.2 else some false) (fun k => ?_) (hm2.bind (hh2.bind ?_))
        · simp only [laws_FnExactHarderPuzzle.j1]; rw [if_neg (by simp)]
        · refine Mth.Evn.congr (fun k => (if_neg (by omega)).trans (if_pos rfl)) (ht.bind (hi.bind (he.bind ?_)))
          refine Mth.Evn.congr (fun k => if_pos rfl) ?_
          simp only [e1]; exact j2
      refine Mth.Evn.step (g := fun k => (laws_toPuzzle.f k a0_0 l0_1).bind fun x => (laws_eqPuzzle.f k a0_0 (l0_1.map cvClue) x.1 x.2).bind fun t => if t = true then (laws_markPuzzle.f k a0_0 (l0_1.map cvClue) 1).bind fun q => if q.1 < 0 then laws_FnExactHarderPuzzle.j1 k b true a0_0 l0_1 p L p L else (laws_eqPuzzle.f k p L p L).bind fun u => if u = true then laws_FnExactHarderPuzzle.j1 k b (b != b) a0_0 l0_1 p L p L else laws_FnExactHarderPuzzle.j1 k b true a0_0 l0_1 p L p L else some false) (fun k => ?_) (ht.bind ((eqPuzzle_ev _ _ hlm).bind ?_))
      · simp only [laws_FnExactHarderPuzzle.j0]; rw [if_neg (by simp)]
      · refine Mth.Evn.congr (fun k => if_pos rfl) (hm.bind ?_)
        refine Mth.Evn.congr (fun k => if_neg (by omega)) (he.bind ?_)
        refine Mth.Evn.congr (fun k => if_pos rfl) ?_
        simp only [e1]; exact j1
    · rw [if_neg hl]
      exact Mth.Evn.congr (fun k => if_pos (by omega)) (Mth.Evn.now _)
  exact hE.get
end Go.Proofs.Ytcbpidgjobbhbaa.PureFnExactHarderPuzzle
