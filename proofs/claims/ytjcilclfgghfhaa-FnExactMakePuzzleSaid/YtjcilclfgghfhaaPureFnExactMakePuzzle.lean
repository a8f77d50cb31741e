/- The pure statement of FnExactMakePuzzle. No condition. -/
import Derived.Test.YtjcilclfgghfhaaQFnExactMakePuzzlex7
import Derived.Test.YtjcilclfgghfhaaMath
import Derived.OpenShut
namespace Go.Proofs.Ytjcilclfgghfhaa.PureFnExactMakePuzzle
open Go Go.RowKit Go.Proofs.Ytjcilclfgghfhaa.QFnExactMakePuzzle Go.Proofs.YtjcilclfgghfhaaW.PrintWords Go.Proofs.YtjcilclfgghfhaaW.PrintLast Go.Proofs.YtjcilclfgghfhaaW.PrintMore
set_option linter.unusedVariables false
set_option linter.unusedSimpArgs false

theorem wrap_id {x : Int} (h : -9223372036854775808 ≤ x) (h' : x ≤ 9223372036854775807) : wrap64 x = x := by unfold wrap64; omega
theorem ite_dec (p q : Prop) [Decidable p] [Decidable q] : (if decide p = true then some (decide q) else some false) = some (decide (p ∧ q)) := by
  by_cases h : p <;> simp [h]
theorem some_dec {p q : Prop} [Decidable p] [Decidable q] (h : p ↔ q) : some (decide p) = some (decide q) := by rw [decide_eq_decide.2 h]
theorem l1In_eq (a b c : Int) : spec_l1In.f a b c = some (decide (b ≤ a ∧ a ≤ c)) := by
  unfold spec_l1In.f
  by_cases h : a ≥ b
  · rw [if_pos h]; simp [show b ≤ a from h]
  · rw [if_neg h]; simp; omega
theorem within_eq (a b c : Int) : impl_within.f a b c = some (decide (b ≤ a ∧ a ≤ c)) := by
  unfold impl_within.f
  by_cases h : a ≥ b
  · rw [if_pos h]; simp [show b ≤ a from h]
  · rw [if_neg h]; simp; omega
theorem cnGood_eq (a b c : Int) : spec_cnGood.f a b c = some (decide ((1 ≤ c ∧ c ≤ 10) ∧ (0 ≤ a ∧ a ≤ c) ∧ (0 ≤ b ∧ b ≤ c))) := by
  unfold spec_cnGood.f; simp only [l1In_eq, Option.bind_some]
  by_cases h : 1 ≤ c ∧ c ≤ 10 <;> by_cases h2 : 0 ≤ a ∧ a ≤ c <;> simp [h, h2]
theorem IsChain_eq (a b c : Int) : impl_IsChain.f a b c = some (decide ((1 ≤ c ∧ c ≤ 10) ∧ (0 ≤ a ∧ a ≤ c) ∧ (0 ≤ b ∧ b ≤ c))) := by
  unfold impl_IsChain.f; simp only [within_eq, Option.bind_some]
  by_cases h : 1 ≤ c ∧ c ≤ 10 <;> by_cases h2 : 0 ≤ a ∧ a ≤ c <;> simp [h, h2]
theorem cnLow_l0 (x0 x1 : Int) (n : Nat) : ∀ (k : Nat) (a b : Int), 0 ≤ a → 0 ≤ b → b.toNat ≤ n → n < k → Int.gcd a b ≠ 0 →
    spec_cnLow.l0 k x0 x1 a b = some (wrap64 (Int.tdiv x0 (Int.gcd a b)), wrap64 (Int.tdiv x1 (Int.gcd a b))) := by
  induction n with
  | zero =>
    intro k a b ha hb hn hk hg
    obtain ⟨k, rfl⟩ : ∃ m, k = m + 1 := ⟨k - 1, by omega⟩
    obtain rfl : b = 0 := by omega
    have e : ((Int.gcd a 0 : Nat) : Int) = a := by rw [Int.gcd_zero_right]; omega
    have h0 : a ≠ 0 := by intro h; subst h; exact hg rfl
    simp only [spec_cnLow.l0]
    rw [if_neg (by omega), if_neg h0, e]
  | succ n ih =>
    intro k a b ha hb hn hk hg
    obtain ⟨k, rfl⟩ : ∃ m, k = m + 1 := ⟨k - 1, by omega⟩
    simp only [spec_cnLow.l0]
    by_cases h : b > 0
    · have h1 := Int.tmod_nonneg b ha
      have h2 := Int.tmod_lt_of_pos a h
      rw [if_pos h, if_neg (by omega), ih k b (a.tmod b) hb h1 (by omega) (by omega) (by rw [Mth.gcd_step]; exact hg), Mth.gcd_step]
    · obtain rfl : b = 0 := by omega
      have e : ((Int.gcd a 0 : Nat) : Int) = a := by rw [Int.gcd_zero_right]; omega
      have h0 : a ≠ 0 := by intro h; subst h; exact hg rfl
      rw [if_neg (by omega), if_neg h0, e]
theorem div_in {x g : Int} {M : Int} (hM : M ≤ 9223372036854775807) (h : -M ≤ x) (h' : x ≤ M) (hd : g ∣ x) (h0 : g ≠ 0) : wrap64 (Int.tdiv x g) = x / g := by
  rw [Int.tdiv_eq_ediv_of_dvd hd]
  obtain ⟨c, rfl⟩ := hd
  rw [Int.mul_ediv_cancel_left _ h0]
  have : c.natAbs ≤ (g * c).natAbs := by rw [Int.natAbs_mul]; exact Nat.le_mul_of_pos_left _ (by omega)
  exact wrap_id (by omega) (by omega)
theorem cnLow_eq (k : Nat) (a b : Int) (ha : 0 ≤ a) (ha' : a ≤ 9223372036854775807) (hb : 0 < b) (hb' : b ≤ 9223372036854775807) (hk : b.toNat < k) : spec_cnLow.f k a b = some (Mth.low a b) := by
  have hg := Int.gcd_pos_of_ne_zero_right a (b := b) (by omega)
  unfold spec_cnLow.f
  rw [cnLow_l0 a b b.toNat k a b ha (by omega) (Nat.le_refl _) hk (by omega)]
  rw [div_in (M := 9223372036854775807) (by omega) (by omega) ha' (Int.gcd_dvd_left a b) (by omega), div_in (M := 9223372036854775807) (by omega) (by omega) hb' (Int.gcd_dvd_right a b) (by omega)]
  unfold Mth.low Mth.dv
  rw [if_neg (by omega)]
theorem common_l0 (n : Nat) : ∀ (k : Nat) (a b : Int), 0 ≤ a → 0 ≤ b → b.toNat ≤ n → n < k → impl_common.l0 k a b = some (Int.gcd a b : Int) := by
  induction n with
  | zero =>
    intro k a b ha hb hn hk
    obtain ⟨k, rfl⟩ : ∃ m, k = m + 1 := ⟨k - 1, by omega⟩
    have hb0 : b = 0 := by omega
    simp only [impl_common.l0]
    rw [if_pos hb0, hb0, Int.gcd_zero_right]; congr 1; omega
  | succ n ih =>
    intro k a b ha hb hn hk
    obtain ⟨k, rfl⟩ : ∃ m, k = m + 1 := ⟨k - 1, by omega⟩
    simp only [impl_common.l0]
    by_cases h : b = 0
    · rw [if_pos h, h, Int.gcd_zero_right]; congr 1; omega
    · have h1 := Int.tmod_nonneg b ha
      have h2 := Int.tmod_lt_of_pos a (b := b) (by omega)
      rw [if_neg h, ih k b (a.tmod b) hb h1 (by omega) (by omega), Mth.gcd_step]
theorem mx_abs (a : Int) (h : -9223372036854775807 ≤ a) (h' : a ≤ 9223372036854775807) : mx a (wrap64 (-a)) = (a.natAbs : Int) := by
  rw [wrap_id (by omega) (by omega)]; unfold mx; split <;> omega
theorem common_eq (k : Nat) (a b : Int) (ha : -9223372036854775807 ≤ a) (ha' : a ≤ 9223372036854775807) (hb : -9223372036854775807 ≤ b) (hb' : b ≤ 9223372036854775807) (hk : b.natAbs < k) :
    impl_common.f k a b = some (Int.gcd a b : Int) := by
  unfold impl_common.f
  rw [mx_abs a ha ha', mx_abs b hb hb', common_l0 b.natAbs k _ _ (by omega) (by omega) (by omega) hk]
  simp [Int.gcd]
theorem lowest_eq (k : Nat) (a b : Int) (ha : -9223372036854775807 ≤ a) (ha' : a ≤ 9223372036854775807) (hb : -9223372036854775807 ≤ b) (hb' : b ≤ 9223372036854775807) (h0 : b ≠ 0) (hk : b.natAbs < k) :
    impl_lowest.f k a b = some (Mth.low a b) := by
  have hg := Int.gcd_pos_of_ne_zero_right a h0
  have hl : Int.gcd a b ≤ b.natAbs := Nat.le_of_dvd (by omega) (Int.gcd_dvd_natAbs_right a b)
  unfold impl_lowest.f
  rw [common_eq k a b ha ha' hb hb' hk]
  simp only [Option.bind_some]
  by_cases h : b < 0
  · have e : wrap64 (-((Int.gcd a b : Nat) : Int)) = -((Int.gcd a b : Nat) : Int) := wrap_id (by omega) (by omega)
    rw [if_pos h, e, if_neg (by omega), div_in (M := 9223372036854775807) (by omega) (by omega) ha' (Int.neg_dvd.2 (Int.gcd_dvd_left a b)) (by omega), div_in (M := 9223372036854775807) (by omega) (by omega) hb' (Int.neg_dvd.2 (Int.gcd_dvd_right a b)) (by omega)]
    unfold Mth.low Mth.dv
    rw [if_pos h]
  · rw [if_neg h, if_neg (by omega), div_in (M := 9223372036854775807) (by omega) (by omega) ha' (Int.gcd_dvd_left a b) (by omega), div_in (M := 9223372036854775807) (by omega) (by omega) hb' (Int.gcd_dvd_right a b) (by omega)]
    unfold Mth.low Mth.dv
    rw [if_neg h]

theorem low_bd {n d : Int} (h0 : 0 ≤ n) (hd : 0 < d) : (0 ≤ (Mth.low n d).1 ∧ (Mth.low n d).1 ≤ n) ∧ 0 < (Mth.low n d).2 ∧ (Mth.low n d).2 ≤ d :=
  ⟨⟨Mth.low_nonneg hd h0, Mth.low_num_le hd h0⟩, Mth.low_pos (by omega), Mth.low_den_le hd⟩
theorem cnLow_ev (a b : Int) (ha : 0 ≤ a) (ha' : a ≤ 9223372036854775807) (hb : 0 < b) (hb' : b ≤ 9223372036854775807) : Mth.Evn (fun k => spec_cnLow.f k a b) (Mth.low a b) :=
  ⟨b.toNat + 1, fun k hk => cnLow_eq k a b ha ha' hb hb' (by omega)⟩
theorem lowest_ev (a b : Int) (ha : -9223372036854775807 ≤ a) (ha' : a ≤ 9223372036854775807) (hb : -9223372036854775807 ≤ b) (hb' : b ≤ 9223372036854775807) (h0 : b ≠ 0) : Mth.Evn (fun k => impl_lowest.f k a b) (Mth.low a b) :=
  ⟨b.natAbs + 1, fun k hk => lowest_eq k a b ha ha' hb hb' h0 (by omega)⟩
/-- What a clue of a kind tells of a chain. -/
def clueVal (w d o kd : Int) : Int × Int × Bool :=
  if kd = 0 then (0, if w > d then 1 else 0, true) else if kd = 1 then (0, w + d, true) else if kd = 2 then (0, w * d, true)
  else if kd = 3 then (if w = 0 ∨ d = 0 then (0, 0, false) else ((Mth.low d (w + d)).1, (Mth.low d (w + d)).2, true))
  else if kd = 4 then (if d = 0 then (0, 0, false) else ((Mth.low o d).1, (Mth.low o d).2, true))
  else (0, (o - w) * (o - w) + w * d, true)
def fitsB (w d o kd a b : Int) : Bool := (clueVal w d o kd).2.2 && ((clueVal w d o kd).1 == a && (clueVal w d o kd).2.1 == b)
section
variable {w d o : Int} (ho : 1 ≤ o) (ho' : o ≤ 8) (hw : 0 ≤ w) (hw' : w ≤ o) (hd : 0 ≤ d) (hd' : d ≤ o)
include ho ho' hw hw' hd hd'
theorem prods : (0 ≤ w * d ∧ w * d ≤ 64) ∧ (0 ≤ (o - w) * (o - w) ∧ (o - w) * (o - w) ≤ 64) := by
  have h1 := Int.mul_nonneg hw hd
  have h2 := Int.mul_le_mul (show w ≤ 8 by omega) (show d ≤ 8 by omega) hd (by omega)
  have h3 := Int.mul_nonneg (show 0 ≤ o - w by omega) (show 0 ≤ o - w by omega)
  have h4 := Int.mul_le_mul (show o - w ≤ 8 by omega) (show o - w ≤ 8 by omega) (by omega) (by omega)
  omega
theorem pzValue_ev (kd : Int) : Mth.Evn (fun k => spec_pzValue.f k kd w d o) (clueVal w d o kd) := by
  obtain ⟨⟨p1, p2⟩, p3, p4⟩ := prods ho ho' hw hw' hd hd'
  unfold spec_pzValue.f clueVal
  by_cases k0 : kd = 0
  · refine Mth.Evn.congr (fun k => ?_) (Mth.Evn.now _)
    simp only [if_pos k0]; split <;> rfl
  · by_cases k1 : kd = 1
    · refine Mth.Evn.congr (fun k => ?_) (Mth.Evn.now _)
      simp only [if_neg k0, if_pos k1]; rw [wrap_id (by omega) (by omega)]
    · by_cases k2 : kd = 2
      · refine Mth.Evn.congr (fun k => ?_) (Mth.Evn.now _)
        simp only [if_neg k0, if_neg k1, if_pos k2]; rw [wrap_id (by omega) (by omega)]
      · by_cases k3 : kd = 3
        · refine Mth.Evn.congr (fun k => by rw [if_neg k0, if_neg k1, if_neg k2, if_pos k3]) ?_
          rw [if_neg k0, if_neg k1, if_neg k2, if_pos k3]
          by_cases w0 : w = 0
          · refine Mth.Evn.congr (fun k => by rw [if_pos w0]) ?_
            rw [if_pos (.inl w0)]; exact Mth.Evn.now _
          · by_cases d0 : d = 0
            · refine Mth.Evn.congr (fun k => by rw [if_neg w0, if_pos d0]) ?_
              rw [if_pos (.inr d0)]; exact Mth.Evn.now _
            · have ew : wrap64 (w + d) = w + d := wrap_id (by omega) (by omega)
              refine Mth.Evn.congr (fun k => by rw [if_neg w0, if_neg d0, ew]) ?_
              rw [if_neg (by omega)]
              exact (cnLow_ev d (w + d) (by omega) (by omega) (by omega) (by omega)).bind (Mth.Evn.now _)
        · by_cases k4 : kd = 4
          · refine Mth.Evn.congr (fun k => by rw [if_neg k0, if_neg k1, if_neg k2, if_neg k3, if_pos k4]) ?_
            rw [if_neg k0, if_neg k1, if_neg k2, if_neg k3, if_pos k4]
            by_cases d0 : d = 0
            · refine Mth.Evn.congr (fun k => by rw [if_pos d0]) ?_
              rw [if_pos d0]; exact Mth.Evn.now _
            · refine Mth.Evn.congr (fun k => by rw [if_neg d0]) ?_
              rw [if_neg d0]
              exact (cnLow_ev o d (by omega) (by omega) (by omega) (by omega)).bind (Mth.Evn.now _)
          · refine Mth.Evn.congr (fun k => ?_) (Mth.Evn.now _)
            simp only [if_neg k0, if_neg k1, if_neg k2, if_neg k3, if_neg k4]
            rw [wrap_id (x := o - w) (by omega) (by omega), wrap_id (x := (o - w) * (o - w)) (by omega) (by omega), wrap_id (x := w * d) (by omega) (by omega), wrap_id (x := (o - w) * (o - w) + w * d) (by omega) (by omega)]
theorem chain_good : decide ((1 ≤ o ∧ o ≤ 10) ∧ (0 ≤ w ∧ w ≤ o) ∧ (0 ≤ d ∧ d ≤ o)) = true := decide_eq_true ⟨⟨ho, by omega⟩, ⟨hw, hw'⟩, hd, hd'⟩
theorem longShare_ev : Mth.Evn (fun k => impl_LongShare.f k w d o (⟨#[100]⟩ : ByteArray)) (if w = 0 ∨ d = 0 then (0, 0, false) else ((Mth.low d (w + d)).1, (Mth.low d (w + d)).2, true)) := by
  have g := chain_good ho ho' hw hw' hd hd'
  have hday : impl_isDay.f (⟨#[100]⟩ : ByteArray) = some true := by decide +kernel
  have hb : bt (⟨#[100]⟩ : ByteArray) 0 = 100 := by decide
  unfold impl_LongShare.f
  refine Mth.Evn.congr (g := fun k => impl_LongShare.j0 k (⟨#[100]⟩ : ByteArray) (!decide (w > 0 ∧ d > 0)) w d o) (fun k => ?_) ?_
  · rw [IsChain_eq, g, hday]; simp only [Option.bind_some, if_true, impl_Chain_mixes.f]
    by_cases h : w > 0
    · rw [if_pos h]; simp only [Option.bind_some]; congr 2; simp [h]
    · rw [if_neg h]; simp only [Option.bind_some]; congr 2; simp [h]
  · by_cases h : w = 0 ∨ d = 0
    · rw [if_pos h, decide_eq_false (by omega)]
      refine (Mth.Evn.now _).step fun k => ?_
      simp only [impl_LongShare.j0]; rfl
    · rw [if_neg h, decide_eq_true (by omega)]
      have ew : wrap64 (w + d) = w + d := wrap_id (by omega) (by omega)
      refine Mth.Evn.step (g := fun k => (impl_lowest.f k d (w + d)).bind fun b => some (b.1, b.2, true)) (fun k => ?_) ((lowest_ev d (w + d) (by omega) (by omega) (by omega) (by omega) (by omega)).bind (Mth.Evn.now _))
      simp only [impl_LongShare.j0, impl_Chain_share.f, impl_otherDay.f, impl_Chain_leave.f, impl_frac_told.f, hb, ew]
      rw [if_neg (by decide), if_pos (by decide)]
      simp only [if_true, Option.bind_some]
      rw [if_neg (by decide)]
      simp only [Option.bind_some]
      cases impl_lowest.f k d (w + d) <;> rfl
theorem meanRun_ev : Mth.Evn (fun k => impl_MeanRun.f k w d o (⟨#[119]⟩ : ByteArray)) (if d = 0 then (0, 0, false) else ((Mth.low o d).1, (Mth.low o d).2, true)) := by
  have g := chain_good ho ho' hw hw' hd hd'
  have hday : impl_isDay.f (⟨#[119]⟩ : ByteArray) = some true := by decide +kernel
  have hb : bt (⟨#[119]⟩ : ByteArray) 0 = 119 := by decide
  unfold impl_MeanRun.f
  refine Mth.Evn.congr (g := fun k => impl_MeanRun.j0 k (⟨#[119]⟩ : ByteArray) (d == 0) w d o) (fun k => ?_) ?_
  · rw [IsChain_eq, g, hday, hb]; simp only [Option.bind_some, if_true, impl_Chain_leave.f]
    rw [if_pos (by decide), if_neg (by decide)]; rfl
  · by_cases h : d = 0
    · rw [if_pos h, show (d == 0) = true by simpa using h]
      refine (Mth.Evn.now _).step fun k => ?_
      simp only [impl_MeanRun.j0]; rfl
    · rw [if_neg h, show (d == 0) = false by simpa using h]
      refine Mth.Evn.step (g := fun k => (impl_lowest.f k o d).bind fun b => some (b.1, b.2, true)) (fun k => ?_) ((lowest_ev o d (by omega) (by omega) (by omega) (by omega) (by omega)).bind (Mth.Evn.now _))
      simp only [impl_MeanRun.j0, impl_Chain_leave.f, impl_frac_told.f, hb]
      rw [if_neg (by decide), if_pos (by decide), if_neg (by decide)]
      simp only [Option.bind_some]
theorem clue_ev (kd : Int) : Mth.Evn (fun k => impl_Chain_clue.f k w d o kd) (kd, clueVal w d o kd) := by
  obtain ⟨⟨p1, p2⟩, p3, p4⟩ := prods ho ho' hw hw' hd hd'
  unfold impl_Chain_clue.f clueVal
  by_cases k0 : kd = 0
  · refine Mth.Evn.congr (fun k => ?_) (Mth.Evn.now _)
    simp only [if_pos k0]; split <;> rfl
  · by_cases k1 : kd = 1
    · refine Mth.Evn.congr (fun k => ?_) (Mth.Evn.now _)
      simp only [if_neg k0, if_pos k1]; rw [wrap_id (by omega) (by omega)]
    · by_cases k2 : kd = 2
      · refine Mth.Evn.congr (fun k => ?_) (Mth.Evn.now _)
        simp only [if_neg k0, if_neg k1, if_pos k2]; rw [wrap_id (by omega) (by omega)]
      · by_cases k3 : kd = 3
        · refine Mth.Evn.congr (fun k => by rw [if_neg k0, if_neg k1, if_neg k2, if_pos k3]) ?_
          rw [if_neg k0, if_neg k1, if_neg k2, if_pos k3]
          refine (longShare_ev ho ho' hw hw' hd hd').bind ?_
          exact Mth.Evn.now _
        · by_cases k4 : kd = 4
          · refine Mth.Evn.congr (fun k => by rw [if_neg k0, if_neg k1, if_neg k2, if_neg k3, if_pos k4]) ?_
            rw [if_neg k0, if_neg k1, if_neg k2, if_neg k3, if_pos k4]
            refine (meanRun_ev ho ho' hw hw' hd hd').bind ?_
            exact Mth.Evn.now _
          · refine Mth.Evn.congr (fun k => ?_) (Mth.Evn.now _)
            simp only [if_neg k0, if_neg k1, if_neg k2, if_neg k3, if_neg k4]
            rw [wrap_id (x := o - w) (by omega) (by omega), wrap_id (x := (o - w) * (o - w)) (by omega) (by omega), wrap_id (x := w * d) (by omega) (by omega), wrap_id (x := (o - w) * (o - w) + w * d) (by omega) (by omega)]
end
theorem rdc_get (xs : List S39) (i : Int) (h : i.toNat < xs.length) : rd_T39 xs i = xs[i.toNat] := by unfold rd_T39; rw [List.getD_eq_getElem?_getD, List.getElem?_eq_getElem h]; rfl
theorem rdc_set (xs : List S39) (i : Int) (v : S39) (h : i.toNat < xs.length) : rd_T39 (xs.set i.toNat v) i = v := by
  rw [rdc_get _ _ (by simpa using h)]; simp
theorem rdc_set_ne (xs : List S39) (i j : Int) (v : S39) (h : i.toNat ≠ j.toNat) : rd_T39 (xs.set i.toNat v) j = rd_T39 xs j := by
  unfold rd_T39; rw [List.getD_eq_getElem?_getD, List.getD_eq_getElem?_getD, List.getElem?_set_ne h]
theorem eqClueS_ev (xs : List S39) (hl : xs.length ≤ 1000000) : Mth.Evn (fun k => laws_eqClueS.f k xs xs) true := by
  have go : ∀ (d : Nat) (i : Int), 0 ≤ i → i + d = xs.length → Mth.Evn (fun k => laws_eqClueS.l0 k xs xs i) true := by
    intro d
    induction d with
    | zero =>
      intro i h0 hi
      refine (Mth.Evn.now _).step fun k => ?_
      simp only [laws_eqClueS.l0]; rw [if_neg (by omega)]
    | succ d ih =>
      intro i h0 hi
      refine (ih (i + 1) (by omega) (by omega)).step fun k => ?_
      simp only [laws_eqClueS.l0]
      rw [if_pos (by omega), if_pos h0, if_pos (by omega)]
      unfold laws_eqClue.f
      rw [if_pos rfl, if_pos rfl, if_pos rfl]
      simp only [Option.bind_some, if_true]
      rw [wrap_id (x := i + 1) (by omega) (by omega)]
  unfold laws_eqClueS.f
  refine Mth.Evn.congr (fun k => if_pos rfl) ?_
  exact go xs.length 0 (by omega) (by omega)
theorem markClueS_l0 : ∀ (d : Nat) (xs : List S39) (m i : Int), xs.length ≤ 1000000 → 0 ≤ i → i + d = xs.length → 0 ≤ m → m + 3 * d ≤ 4000000 →
    ∃ r : List S39, r.length = xs.length ∧ (∀ j : Int, 0 ≤ j → j < i → rd_T39 r j = rd_T39 xs j) ∧ (∀ j : Int, i ≤ j → j < xs.length → rd_T39 r j = ⟨m + 3 * (j - i), m + 3 * (j - i) + 1, m + 3 * (j - i) + 2⟩) ∧
      Mth.Evn (fun k => laws_markClueS.l0 k xs m i) (m + 3 * d, r)
  | 0, xs, m, i, hx, h0, hi, hm, hb => by
    refine ⟨xs, rfl, fun j _ _ => rfl, fun j h1 h2 => by omega, ?_⟩
    refine (Mth.Evn.now _).step fun k => ?_
    simp only [laws_markClueS.l0]; rw [if_neg (by omega)]
    simp
  | d + 1, xs, m, i, hx, h0, hi, hm, hb => by
    have hlt : i.toNat < xs.length := by omega
    obtain ⟨r, hr, hlo, hhi, hev⟩ := markClueS_l0 d (xs.set i.toNat ⟨m, m + 1, m + 2⟩) (m + 3) (i + 1) (by simpa using hx) (by omega) (by simp; omega) (by omega) (by omega)
    refine ⟨r, by simpa using hr, fun j h1 h2 => ?_, fun j h1 h2 => ?_, ?_⟩
    · rw [hlo j h1 (by omega), rdc_set_ne _ _ _ _ (by omega)]
    · by_cases e : j = i
      · subst e
        rw [hlo j h0 (by omega), rdc_set _ _ _ hlt]
        simp
      · rw [hhi j (by omega) (by simpa using h2), show m + 3 + 3 * (j - (i + 1)) = m + 3 * (j - i) by omega]
    · rw [show m + 3 * ((d + 1 : Nat) : Int) = m + 3 + 3 * (d : Int) by omega]
      refine hev.step fun k => ?_
      simp only [laws_markClueS.l0]
      rw [if_pos (by omega), if_pos h0]
      simp only [Option.bind_some]
      rw [rdc_set _ _ _ hlt, rdc_set _ _ _ (by simpa using hlt), List.set_set, List.set_set, wrap_id (x := m + 1) (by omega) (by omega), wrap_id (x := m + 1 + 1) (by omega) (by omega), wrap_id (x := m + 1 + 1 + 1) (by omega) (by omega), wrap_id (x := i + 1) (by omega) (by omega), show m + 1 + 1 = m + 2 by omega, show m + 2 + 1 = m + 3 by omega]
theorem heldClueS_l0 (r : List S39) (m0 : Int) (hgood : ∀ j : Int, 0 ≤ j → j < r.length → rd_T39 r j = ⟨m0 + 3 * j, m0 + 3 * j + 1, m0 + 3 * j + 2⟩) (hm : 0 ≤ m0) (hb : m0 + 3 * r.length ≤ 4000000) : ∀ (d : Nat) (i : Int), 0 ≤ i → i + d = r.length →
    Mth.Evn (fun k => laws_heldClueS.l0 k r (m0 + 3 * i) i) (m0 + 3 * r.length)
  | 0, i, h0, hi => by
    refine (Mth.Evn.now _).step fun k => ?_
    simp only [laws_heldClueS.l0]; rw [if_neg (by omega)]
    congr 1; omega
  | d + 1, i, h0, hi => by
    have ih := heldClueS_l0 r m0 hgood hm hb d (i + 1) (by omega) (by omega)
    refine ih.step fun k => ?_
    simp only [laws_heldClueS.l0]
    rw [if_pos (by omega), if_pos h0, hgood i h0 (by omega)]
    rw [wrap_id (x := m0 + 3 * i + 1) (by omega) (by omega), wrap_id (x := m0 + 3 * i + 1 + 1) (by omega) (by omega), wrap_id (x := m0 + 3 * i + 1 + 1 + 1) (by omega) (by omega), wrap_id (x := i + 1) (by omega) (by omega)]
    simp only
    rw [if_pos trivial, if_pos trivial, if_pos (by omega), show m0 + 3 * i + 1 + 1 + 1 = m0 + 3 * (i + 1) by omega]
/-- What is marked is held. -/
theorem mark_held_clue (xs : List S39) (hl : xs.length ≤ 1000000) :
    ∃ r : List S39, Mth.Evn (fun k => laws_markClueS.f k xs 1) (1 + 3 * xs.length, r) ∧ Mth.Evn (fun k => laws_heldClueS.f k r 1) (1 + 3 * xs.length) := by
  obtain ⟨r, hr, _, hhi, hev⟩ := markClueS_l0 xs.length xs 1 0 hl (by omega) (by omega) (by omega) (by omega)
  refine ⟨r, hev, ?_⟩
  have := heldClueS_l0 r 1 (fun j h1 h2 => by rw [hhi j h1 (by omega)]; simp) (by omega) (by omega) r.length 0 (by omega) (by omega)
  rw [hr] at this
  exact this
theorem eqPuzzle_ev (o : Int) (xs : List S39) (hl : xs.length ≤ 1000000) : Mth.Evn (fun k => laws_eqPuzzle.f k o xs o xs) true := by
  unfold laws_eqPuzzle.f
  refine Mth.Evn.congr (fun k => if_pos rfl) ?_
  exact (eqClueS_ev xs hl).bind (Mth.Evn.now _)
theorem mark_held_puzzle (o : Int) (xs : List S39) (hl : xs.length ≤ 1000000) :
    ∃ (m : Int) (r : List S39), 0 ≤ m ∧ Mth.Evn (fun k => laws_markPuzzle.f k o xs 1) (m, r) ∧ Mth.Evn (fun k => laws_heldPuzzle.f k o r 1) m := by
  obtain ⟨r, h1, h2⟩ := mark_held_clue xs hl
  refine ⟨1 + 3 * xs.length, r, by omega, ?_, ?_⟩
  · unfold laws_markPuzzle.f
    exact h1.bind (Mth.Evn.now _)
  · unfold laws_heldPuzzle.f
    refine h2.bind ?_
    refine Mth.Evn.congr (fun k => ?_) (Mth.Evn.now _)
    rw [if_neg (by omega)]
/-- The kind that is taken for a kind. -/
def kindFor (w d kd : Int) : Int := if kd = 3 ∧ (w = 0 ∨ d = 0) then 0 else if kd = 4 ∧ d = 0 then 1 else kd
def makeC (w d o kd : Int) : S39 := ⟨kindFor w d kd, (clueVal w d o (kindFor w d kd)).1, (clueVal w d o (kindFor w d kd)).2.1⟩
def nextZ (z : Int) : Int := (239 * z + 1777) % 10007
def made (w d o : Int) : Nat → Int → List S39 → List S39
  | 0, _, xs => xs
  | n + 1, z, xs => made w d o n (nextZ z) (xs ++ [makeC w d o (nextZ z % 6)])
theorem made_len (w d o : Int) : ∀ (n : Nat) (z : Int) (xs : List S39), (made w d o n z xs).length = xs.length + n
  | 0, _, _ => rfl
  | n + 1, z, xs => by rw [made, made_len w d o n]; simp; omega
theorem nextZ_bd (z : Int) : 0 ≤ nextZ z ∧ nextZ z ≤ 10006 := by unfold nextZ; omega
theorem pzNext_eq (z : Int) (h : 0 ≤ z) (h' : z ≤ 10006) : spec_pzNext.f z = some (nextZ z) := by
  unfold spec_pzNext.f nextZ
  rw [wrap_id (x := 239 * z) (by omega) (by omega), wrap_id (x := 239 * z + 1777) (by omega) (by omega), Int.tmod_eq_emod_of_nonneg (by omega)]
section
variable {w d o : Int} (ho : 1 ≤ o) (ho' : o ≤ 8) (hw : 0 ≤ w) (hw' : w ≤ o) (hd : 0 ≤ d) (hd' : d ≤ o)
include ho ho' hw hw' hd hd'
theorem pzMake_ev (kd : Int) : Mth.Evn (fun k => spec_pzMake.f k kd w d o) ((makeC w d o kd).f0, (makeC w d o kd).f1, (makeC w d o kd).f2) := by
  have key : ∀ kd', kindFor w d kd = kd' → Mth.Evn (fun k => (spec_pzValue.f k kd' w d o).bind fun b => some (kd', b.1, b.2.1)) ((makeC w d o kd).f0, (makeC w d o kd).f1, (makeC w d o kd).f2) := by
    intro kd' e
    refine (pzValue_ev ho ho' hw hw' hd hd' kd').bind ?_
    unfold makeC; rw [e]; exact Mth.Evn.now _
  unfold spec_pzMake.f
  by_cases k3 : kd = 3
  · refine Mth.Evn.congr (fun k => if_pos k3) ?_
    by_cases w0 : w = 0
    · refine Mth.Evn.congr (fun k => if_pos w0) ?_
      refine (key 0 (by unfold kindFor; rw [if_pos ⟨k3, .inl w0⟩])).step fun k => ?_
      simp only [spec_pzMake.j0]; rfl
    · refine Mth.Evn.congr (fun k => if_neg w0) ?_
      by_cases d0 : d = 0
      · refine (key 0 (by unfold kindFor; rw [if_pos ⟨k3, .inr d0⟩])).step fun k => ?_
        simp only [spec_pzMake.j0]; rw [if_pos (by simpa using d0)]
      · refine (key kd (by unfold kindFor; rw [if_neg (by omega), if_neg (by omega)])).step fun k => ?_
        simp only [spec_pzMake.j0]; rw [if_neg (by simpa using d0), if_neg (by omega)]
  · refine Mth.Evn.congr (fun k => if_neg k3) ?_
    by_cases k4 : kd = 4
    · by_cases d0 : d = 0
      · refine (key 1 (by unfold kindFor; rw [if_neg (by omega), if_pos ⟨k4, d0⟩])).step fun k => ?_
        simp only [spec_pzMake.j0]; rw [if_neg (by simp), if_pos k4, if_pos d0]
      · refine (key kd (by unfold kindFor; rw [if_neg (by omega), if_neg (by omega)])).step fun k => ?_
        simp only [spec_pzMake.j0]; rw [if_neg (by simp), if_pos k4, if_neg d0]
    · refine (key kd (by unfold kindFor; rw [if_neg (by omega), if_neg (by omega)])).step fun k => ?_
      simp only [spec_pzMake.j0]; rw [if_neg (by simp), if_neg k4]
theorem spec_make : ∀ (n : Nat) (z : Int) (xs : List S39), 0 ≤ z → z ≤ 10006 → xs.length + n ≤ 6 →
    Mth.Evn (fun k => spec_MakePuzzle.l0 k n z w d o o xs) (o, made w d o n z xs, true)
  | 0, z, xs, h0, h1, hl => by
    refine (Mth.Evn.now _).step fun k => ?_
    simp only [spec_MakePuzzle.l0]; rw [if_neg (by omega)]; rfl
  | n + 1, z, xs, h0, h1, hl => by
    have b := nextZ_bd z
    have ih := spec_make n (nextZ z) (xs ++ [makeC w d o (nextZ z % 6)]) b.1 b.2 (by simp; omega)
    have ew : wrap64 (((n + 1 : Nat) : Int) - 1) = (n : Int) := by rw [wrap_id (by omega) (by omega)]; omega
    refine Mth.Evn.step (g := fun k => (spec_pzMake.f k (nextZ z % 6) w d o).bind fun bt => if xs.length < 5864062014805 then spec_MakePuzzle.l0 k n (nextZ z) w d o o (xs ++ [(⟨bt.1, bt.2.1, bt.2.2⟩ : S39)]) else none) (fun k => by simp only [spec_MakePuzzle.l0]; rw [if_pos (by omega), pzNext_eq z h0 h1, ew]; simp only [Option.bind_some]; rw [Int.tmod_eq_emod_of_nonneg b.1]) ?_
    refine (pzMake_ev ho ho' hw hw' hd hd' (nextZ z % 6)).bind ?_
    refine Mth.Evn.congr (fun k => ?_) ih
    rw [if_pos (by omega)]
theorem impl_make (m : Int) (hm : m ≤ 6) : ∀ (n : Nat) (z i : Int) (xs : List S39), 0 ≤ z → z ≤ 10006 → 0 ≤ i → i + n = m → xs.length + n ≤ 6 →
    Mth.Evn (fun k => impl_MakePuzzle.l0 k z m i w d o o xs) (o, made w d o n z xs, true)
  | 0, z, i, xs, h0, h1, hi, hn, hl => by
    refine (Mth.Evn.now _).step fun k => ?_
    simp only [impl_MakePuzzle.l0]; rw [if_neg (by omega)]; rfl
  | n + 1, z, i, xs, h0, h1, hi, hn, hl => by
    have b := nextZ_bd z
    have ih := impl_make m hm n (nextZ z) (i + 1) (xs ++ [makeC w d o (nextZ z % 6)]) b.1 b.2 (by omega) (by omega) (by simp; omega)
    have ez : Int.tmod (wrap64 (wrap64 (z * 239) + 1777)) 10007 = nextZ z := by
      rw [wrap_id (x := z * 239) (by omega) (by omega), wrap_id (x := z * 239 + 1777) (by omega) (by omega), Int.tmod_eq_emod_of_nonneg (by omega), Int.mul_comm]; rfl
    have ez6 : Int.tmod (nextZ z) 6 = nextZ z % 6 := Int.tmod_eq_emod_of_nonneg b.1
    have key : ∀ kd', kindFor w d (nextZ z % 6) = kd' → Mth.Evn (fun k => (impl_Chain_clue.f k w d o kd').bind fun bt => if xs.length < 5864062014805 then impl_MakePuzzle.l0 k (nextZ z) m (wrap64 (i + 1)) w d o o (xs ++ [(⟨bt.1, bt.2.1, bt.2.2.1⟩ : S39)]) else none) (o, made w d o (n + 1) z xs, true) := by
      intro kd' e
      refine (clue_ev ho ho' hw hw' hd hd' kd').bind ?_
      refine Mth.Evn.congr (fun k => ?_) ih
      rw [if_pos (by omega), wrap_id (x := i + 1) (by omega) (by omega)]
      unfold makeC; rw [e]
    have hj : ∀ b6 : Bool, (b6 = true → kindFor w d (nextZ z % 6) = 0) → (b6 = false → kindFor w d (nextZ z % 6) = if nextZ z % 6 = 4 ∧ d = 0 then 1 else nextZ z % 6) →
        Mth.Evn (fun k => impl_MakePuzzle.j2 k (nextZ z) (nextZ z % 6) m i b6 w d o o xs) (o, made w d o (n + 1) z xs, true) := by
      intro b6 ht hf
      cases b6 with
      | true =>
        refine (key 0 (ht rfl)).step fun k => ?_
        simp only [impl_MakePuzzle.j2]; rw [if_pos (by simp), if_neg (by decide)]
      | false =>
        have hf := hf rfl
        by_cases k4 : nextZ z % 6 = 4
        · by_cases d0 : d = 0
          · refine (key 1 (by rw [hf, if_pos ⟨k4, d0⟩])).step fun k => ?_
            simp only [impl_MakePuzzle.j2]; rw [if_neg (by simp), if_pos k4, if_pos d0]
          · refine (key (nextZ z % 6) (by rw [hf, if_neg (by omega)])).step fun k => ?_
            simp only [impl_MakePuzzle.j2]; rw [if_neg (by simp), if_pos k4, if_neg d0]
        · refine (key (nextZ z % 6) (by rw [hf, if_neg (by omega)])).step fun k => ?_
          simp only [impl_MakePuzzle.j2]; rw [if_neg (by simp), if_neg k4]
    by_cases k3 : nextZ z % 6 = 3
    · refine Mth.Evn.step (g := fun k => impl_MakePuzzle.j2 k (nextZ z) (nextZ z % 6) m i (!decide (w > 0 ∧ d > 0)) w d o o xs) (fun k => ?_) (hj _ (fun h => ?_) (fun h => ?_))
      · simp only [impl_MakePuzzle.l0, ez, ez6]
        rw [if_pos (by omega), if_pos k3]
        unfold impl_Chain_mixes.f
        by_cases h : w > 0
        · rw [if_pos h]; simp only [Option.bind_some]; congr 2; simp [h]
        · rw [if_neg h]; simp only [Option.bind_some]; congr 2; simp [h]
      · have : ¬ (w > 0 ∧ d > 0) := by simp at h; omega
        unfold kindFor; rw [if_pos ⟨k3, by omega⟩]
      · have : w > 0 ∧ d > 0 := by simpa using h
        unfold kindFor; rw [if_neg (by omega)]
    · refine Mth.Evn.step (g := fun k => impl_MakePuzzle.j2 k (nextZ z) (nextZ z % 6) m i false w d o o xs) (fun k => ?_) (hj _ (fun h => by cases h) (fun _ => ?_))
      · simp only [impl_MakePuzzle.l0, ez, ez6]
        rw [if_pos (by omega), if_neg k3]
      · unfold kindFor; rw [if_neg (by omega)]
end
theorem holds (a0_0 : Int) (a0_1 : Int) (a0_2 : Int) (a1 : Int) (a2 : Int) (w0_0 : (Lit.int .i64 a0_0).wf = true) (w0_1 : (Lit.int .i64 a0_1).wf = true) (w0_2 : (Lit.int .i64 a0_2).wf = true) (w1 : (Lit.int .i64 a1).wf = true) (w2 : (Lit.int .i64 a2).wf = true) : ∃ k, laws_FnExactMakePuzzle.f k a0_0 a0_1 a0_2 a1 a2 = some true := by
  refine Mth.Evn.get (f := fun k => laws_FnExactMakePuzzle.f k a0_0 a0_1 a0_2 a1 a2) ?_
  have e1 : spec_pzHidden.f a0_0 a0_1 a0_2 = some (decide (((1 ≤ a0_2 ∧ a0_2 ≤ 10) ∧ (0 ≤ a0_0 ∧ a0_0 ≤ a0_2) ∧ (0 ≤ a0_1 ∧ a0_1 ≤ a0_2)) ∧ (1 ≤ a0_2 ∧ a0_2 ≤ 8))) := by
    unfold spec_pzHidden.f spec_pzOf.f
    rw [cnGood_eq, l1In_eq]; simp only [Option.bind_some, ite_dec]
  have e2 : impl_isHidden.f a0_0 a0_1 a0_2 = some (decide (((1 ≤ a0_2 ∧ a0_2 ≤ 10) ∧ (0 ≤ a0_0 ∧ a0_0 ≤ a0_2) ∧ (0 ≤ a0_1 ∧ a0_1 ≤ a0_2)) ∧ a0_2 ≤ 8)) := by
    unfold impl_isHidden.f
    rw [IsChain_eq]; simp only [Option.bind_some, ite_dec]
  -- both make one puzzle, whatever came in
  have main : ∃ (o : Int) (xs : List S39) (b : Bool), xs.length ≤ 1000000 ∧ Mth.Evn (fun k => spec_MakePuzzle.f k a0_0 a0_1 a0_2 a1 a2) (o, xs, b) ∧ Mth.Evn (fun k => impl_MakePuzzle.f k a0_0 a0_1 a0_2 a1 a2) (o, xs, b) := by
    by_cases h : (((1 ≤ a0_2 ∧ a0_2 ≤ 10) ∧ (0 ≤ a0_0 ∧ a0_0 ≤ a0_2) ∧ (0 ≤ a0_1 ∧ a0_1 ≤ a0_2)) ∧ (1 ≤ a0_2 ∧ a0_2 ≤ 8)) ∧ (0 ≤ a1 ∧ a1 ≤ 6) ∧ (0 ≤ a2 ∧ a2 ≤ 9999)
    · obtain ⟨hc, hn, hz⟩ := h
      have hc' : ((1 ≤ a0_2 ∧ a0_2 ≤ 10) ∧ (0 ≤ a0_0 ∧ a0_0 ≤ a0_2) ∧ (0 ≤ a0_1 ∧ a0_1 ≤ a0_2)) ∧ a0_2 ≤ 8 := ⟨hc.1, hc.2.2⟩
      refine ⟨a0_2, made a0_0 a0_1 a0_2 a1.toNat a2 [], true, by rw [made_len]; simp; omega, ?_, ?_⟩
      · have := spec_make hc.2.1 hc.2.2 hc.1.2.1.1 hc.1.2.1.2 hc.1.2.2.1 hc.1.2.2.2 a1.toNat a2 [] hz.1 (by omega) (by simp; omega)
        rw [show ((a1.toNat : Nat) : Int) = a1 by omega] at this
        refine Mth.Evn.congr (g := fun k => spec_MakePuzzle.j0 k a1 a2 false a0_0 a0_1 a0_2) (fun k => ?_) (this.step fun k => ?_)
        · unfold spec_MakePuzzle.f
          rw [e1, l1In_eq, l1In_eq, decide_eq_true hc, decide_eq_true hn, decide_eq_true hz]; rfl
        · simp only [spec_MakePuzzle.j0]; rw [if_neg (by simp)]
      · have := impl_make hc.2.1 hc.2.2 hc.1.2.1.1 hc.1.2.1.2 hc.1.2.2.1 hc.1.2.2.2 a1 hn.2 a1.toNat a2 0 [] hz.1 (by omega) (by omega) (by omega) (by simp; omega)
        refine Mth.Evn.congr (g := fun k => impl_MakePuzzle.j0 k a1 a2 false a0_0 a0_1 a0_2) (fun k => ?_) (this.step fun k => ?_)
        · unfold impl_MakePuzzle.f
          rw [e2, within_eq, within_eq, decide_eq_true hc', decide_eq_true hn, decide_eq_true hz]; rfl
        · simp only [impl_MakePuzzle.j0]; rw [if_neg (by simp)]
    · refine ⟨0, [], false, by simp, ?_, ?_⟩
      · refine Mth.Evn.congr (g := fun k => spec_MakePuzzle.j0 k a1 a2 true a0_0 a0_1 a0_2) (fun k => ?_) ((Mth.Evn.now _).step fun k => ?_)
        · unfold spec_MakePuzzle.f
          rw [e1, l1In_eq, l1In_eq]
          by_cases h1 : ((1 ≤ a0_2 ∧ a0_2 ≤ 10) ∧ (0 ≤ a0_0 ∧ a0_0 ≤ a0_2) ∧ (0 ≤ a0_1 ∧ a0_1 ≤ a0_2)) ∧ (1 ≤ a0_2 ∧ a0_2 ≤ 8)
          · by_cases h2 : 0 ≤ a1 ∧ a1 ≤ 6
            · rw [decide_eq_true h1, decide_eq_true h2, decide_eq_false (fun h3 => h ⟨h1, h2, h3⟩)]; rfl
            · rw [decide_eq_true h1, decide_eq_false h2]; rfl
          · rw [decide_eq_false h1]; rfl
        · simp only [spec_MakePuzzle.j0]; rfl
      · refine Mth.Evn.congr (g := fun k => impl_MakePuzzle.j0 k a1 a2 true a0_0 a0_1 a0_2) (fun k => ?_) ((Mth.Evn.now _).step fun k => ?_)
        · unfold impl_MakePuzzle.f
          rw [e2, within_eq, within_eq]
          by_cases h1 : ((1 ≤ a0_2 ∧ a0_2 ≤ 10) ∧ (0 ≤ a0_0 ∧ a0_0 ≤ a0_2) ∧ (0 ≤ a0_1 ∧ a0_1 ≤ a0_2)) ∧ a0_2 ≤ 8
          · by_cases h2 : 0 ≤ a1 ∧ a1 ≤ 6
            · rw [decide_eq_true h1, decide_eq_true h2, decide_eq_false (fun h3 => h ⟨⟨h1.1, h1.1.1.1, h1.2⟩, h2, h3⟩)]; rfl
            · rw [decide_eq_true h1, decide_eq_false h2]; rfl
          · rw [decide_eq_false h1]; rfl
        · simp only [impl_MakePuzzle.j0]; rfl
  obtain ⟨o, xs, b, hl, E1, E2⟩ := main
  obtain ⟨m, r, hm, M, H⟩ := mark_held_puzzle o xs hl
  have EQ := eqPuzzle_ev o xs hl
  refine Mth.Evn.congr (g := fun k => (spec_MakePuzzle.f k a0_0 a0_1 a0_2 a1 a2).bind fun s => (impl_MakePuzzle.f k a0_0 a0_1 a0_2 a1 a2).bind fun g => (laws_eqPuzzle.f k g.1 g.2.1 s.1 s.2.1).bind fun t => if t = true then laws_FnExactMakePuzzle.j0 k a1 a2 s.2.2 (g.2.2 != s.2.2) a0_0 a0_1 a0_2 s.1 s.2.1 g.1 g.2.1 else laws_FnExactMakePuzzle.j0 k a1 a2 s.2.2 true a0_0 a0_1 a0_2 s.1 s.2.1 g.1 g.2.1) (fun k => rfl) ?_
  refine E1.bind (E2.bind (EQ.bind ?_))
  refine Mth.Evn.congr (g := fun k => laws_FnExactMakePuzzle.j0 k a1 a2 b false a0_0 a0_1 a0_2 o xs o xs) (fun k => by simp) ?_
  refine Mth.Evn.step (g := fun k => (laws_markPuzzle.f k o xs 1).bind fun mm => (laws_heldPuzzle.f k o mm.2 1).bind fun t => if t < 0 then some false else if t = mm.1 then ((impl_MakePuzzle.f k a0_0 a0_1 a0_2 a1 a2).bind fun g => (laws_eqPuzzle.f k g.1 g.2.1 o xs).bind fun t2 => if t2 = true then laws_FnExactMakePuzzle.j1 k mm.1 (g.2.2 != b) o mm.2 else laws_FnExactMakePuzzle.j1 k mm.1 true o mm.2) else some false) (fun k => by simp only [laws_FnExactMakePuzzle.j0, laws_toChain.f, Option.bind_some]; rw [if_neg (by simp)]) ?_
  refine M.bind (H.bind ?_)
  refine Mth.Evn.congr (fun k => by rw [if_neg (show ¬ m < 0 by omega), if_pos (show m = m from rfl)]) ?_
  refine E2.bind (EQ.bind ?_)
  refine Mth.Evn.congr (g := fun k => laws_FnExactMakePuzzle.j1 k m false o r) (fun k => by simp) ?_
  refine Mth.Evn.step (g := fun k => (laws_heldPuzzle.f k o r 1).bind fun t => if t < 0 then some false else if t = m then some true else some false) (fun k => by simp only [laws_FnExactMakePuzzle.j1]; rw [if_neg (by simp)]) ?_
  refine H.bind ?_
  refine Mth.Evn.congr (fun k => ?_) (Mth.Evn.now _)
  rw [if_neg (by omega), if_pos rfl]
end Go.Proofs.Ytjcilclfgghfhaa.PureFnExactMakePuzzle
