/- The pure statement of FnExactLikeliestSigns: both sides go through the same texts in the same order and weigh each by the same sum. No condition. -/
import Derived.Test.YtfpbpiodoajpiaaQFnExactLikeliestSignsx6
import Derived.Test.YtfpbpiodoajpiaaMath
import Derived.OpenShut
namespace Go.Proofs.Ytfpbpiodoajpiaa.PureFnExactLikeliestSigns
open Go Go.RowKit Go.Proofs.Ytfpbpiodoajpiaa.QFnExactLikeliestSigns Go.Proofs.YtfpbpiodoajpiaaW.PrintWords Go.Proofs.YtfpbpiodoajpiaaW.PrintLast Go.Proofs.YtfpbpiodoajpiaaW.PrintMore
set_option linter.unusedVariables false
set_option linter.unusedSimpArgs false

theorem wrap_id {x : Int} (h : -9223372036854775808 ≤ x) (h' : x ≤ 9223372036854775807) : wrap64 x = x := by unfold wrap64; omega
theorem ite_dec (p q : Prop) [Decidable p] [Decidable q] : (if decide p = true then some (decide q) else some false) = some (decide (p ∧ q)) := by
  by_cases h : p <;> simp [h]
theorem some_dec {p q : Prop} [Decidable p] [Decidable q] (h : p ↔ q) : some (decide p) = some (decide q) := by rw [decide_eq_decide.2 h]
theorem div_in {x g : Int} {M : Int} (hM : M ≤ 9223372036854775807) (h : -M ≤ x) (h' : x ≤ M) (hd : g ∣ x) (h0 : g ≠ 0) : wrap64 (Int.tdiv x g) = x / g := by
  rw [Int.tdiv_eq_ediv_of_dvd hd]
  obtain ⟨c, rfl⟩ := hd
  rw [Int.mul_ediv_cancel_left _ h0]
  have : c.natAbs ≤ (g * c).natAbs := by rw [Int.natAbs_mul]; exact Nat.le_mul_of_pos_left _ (by omega)
  exact wrap_id (by omega) (by omega)
theorem l1In_eq (a b c : Int) : spec_l1In.f a b c = some (decide (b ≤ a ∧ a ≤ c)) := by
  unfold spec_l1In.f
  by_cases h : a ≥ b
  · rw [if_pos h]; simp [show b ≤ a from h]
  · rw [if_neg h]; simp; omega
theorem within_eq (a b c : Int) : impl_within.f a b c = some (decide (b ≤ a ∧ a ≤ c)) := by
  unfold impl_within.f
  by_cases h : a ≥ b
  · rw [if_pos h]; simp [show b ≤ a from h]
  · rw [if_neg h]; simp; omega
theorem cnGood_eq (a b c : Int) : spec_cnGood.f a b c = some (decide ((1 ≤ c ∧ c ≤ 10) ∧ (0 ≤ a ∧ a ≤ c) ∧ (0 ≤ b ∧ b ≤ c))) := by
  unfold spec_cnGood.f; simp only [l1In_eq, Option.bind_some]
  by_cases h : 1 ≤ c ∧ c ≤ 10 <;> by_cases h2 : 0 ≤ a ∧ a ≤ c <;> simp [h, h2]
theorem IsChain_eq (a b c : Int) : impl_IsChain.f a b c = some (decide ((1 ≤ c ∧ c ≤ 10) ∧ (0 ≤ a ∧ a ≤ c) ∧ (0 ≤ b ∧ b ≤ c))) := by
  unfold impl_IsChain.f; simp only [within_eq, Option.bind_some]
  by_cases h : 1 ≤ c ∧ c ≤ 10 <;> by_cases h2 : 0 ≤ a ∧ a ≤ c <;> simp [h, h2]
theorem hdGood_eq (a b c d e g : Int) : spec_hdGood.f a b c d e g = some (decide (((1 ≤ c ∧ c ≤ 10) ∧ (0 ≤ a ∧ a ≤ c) ∧ (0 ≤ b ∧ b ≤ c)) ∧ (1 ≤ g ∧ g ≤ 10) ∧ (0 ≤ d ∧ d ≤ g) ∧ (0 ≤ e ∧ e ≤ g))) := by
  unfold spec_hdGood.f; simp only [cnGood_eq, l1In_eq, Option.bind_some]
  by_cases h : (1 ≤ c ∧ c ≤ 10) ∧ (0 ≤ a ∧ a ≤ c) ∧ (0 ≤ b ∧ b ≤ c)
  · by_cases h1 : 1 ≤ g ∧ g ≤ 10 <;> by_cases h2 : 0 ≤ d ∧ d ≤ g <;> simp [h, h1, h2]
  · simp only [h, decide_false, false_and, Bool.false_eq_true, if_false]
theorem IsHidden_eq (a b c d e g : Int) : impl_IsHidden.f a b c d e g = some (decide (((1 ≤ c ∧ c ≤ 10) ∧ (0 ≤ a ∧ a ≤ c) ∧ (0 ≤ b ∧ b ≤ c)) ∧ (1 ≤ g ∧ g ≤ 10) ∧ (0 ≤ d ∧ d ≤ g) ∧ (0 ≤ e ∧ e ≤ g))) := by
  unfold impl_IsHidden.f; simp only [IsChain_eq, within_eq, Option.bind_some]
  by_cases h : (1 ≤ c ∧ c ≤ 10) ∧ (0 ≤ a ∧ a ≤ c) ∧ (0 ≤ b ∧ b ≤ c)
  · by_cases h1 : 1 ≤ g ∧ g ≤ 10 <;> by_cases h2 : 0 ≤ d ∧ d ≤ g <;> simp [h, h1, h2]
  · simp only [h, decide_false, false_and, Bool.false_eq_true, if_false]

/-- All texts of so many signs, each of two, in order. -/
def allT (a b : ByteArray) : Nat → List ByteArray
  | 0 => [(⟨#[]⟩ : ByteArray)]
  | n + 1 => (allT a b n).flatMap fun s => [s ++ a, s ++ b]
theorem fm_len (a b : ByteArray) (l : List ByteArray) : (l.flatMap fun s => [s ++ a, s ++ b]).length = 2 * l.length := by
  induction l with
  | nil => rfl
  | cons x xs ih => simp only [List.flatMap_cons, List.length_append, ih, List.length_cons, List.length_nil]; omega
theorem allT_len (a b : ByteArray) : ∀ n, (allT a b n).length = 2 ^ n
  | 0 => rfl
  | n + 1 => by rw [allT, fm_len, allT_len a b n, Nat.pow_succ]; omega
theorem rdOf_get {xs : List ByteArray} {i : Nat} (h : i < xs.length) : rdOf ByteArray.empty xs (i : Int) = xs[i] := by
  unfold rdOf
  rw [show ((i : Nat) : Int).toNat = i by omega]
  simp [List.getD_eq_getElem?_getD, h]
theorem rdOf_mem {xs : List ByteArray} {i : Nat} (h : i < xs.length) : rdOf ByteArray.empty xs (i : Int) ∈ xs := by
  rw [rdOf_get h]; exact List.getElem_mem h
theorem drop_rd {xs : List ByteArray} {i : Nat} (h : i < xs.length) : xs.drop i = rdOf ByteArray.empty xs (i : Int) :: xs.drop (i + 1) := by
  rw [rdOf_get h]; exact List.drop_eq_getElem_cons h
/-- Texts of one and the same size. -/
def Sized (n : Nat) (l : List ByteArray) : Prop := ∀ s, s ∈ l → s.size = n
theorem allT_sized {a b : ByteArray} (ha : a.size = 1) (hb : b.size = 1) : ∀ n, Sized n (allT a b n)
  | 0 => fun s hs => by
    simp only [allT, List.mem_cons, List.not_mem_nil, or_false] at hs
    subst hs; rfl
  | n + 1 => fun s hs => by
    simp only [allT, List.mem_flatMap, List.mem_cons, List.not_mem_nil, or_false] at hs
    obtain ⟨t, ht, h⟩ := hs
    have := allT_sized ha hb n t ht
    rcases h with rfl | rfl <;> simp [ByteArray.size_append, this, ha, hb]
theorem texts_l1 {a b : ByteArray} (ha : a.size = 1) (hb : b.size = 1) {n : Nat} (hn : n ≤ 8) (L : List ByteArray) (hL : L.length ≤ 256) (hs : Sized n L) (x12 x13 : Int) {r : List ByteArray}
    (hc : Mth.Evn (fun k => impl_texts.l0 k a b (L.flatMap fun s => [s ++ a, s ++ b]) x12 (wrap64 (x13 + 1))) r) :
    ∀ (d i : Nat) (acc : List ByteArray), i + d = L.length → acc.length = 2 * i → acc ++ ((L.drop i).flatMap fun s => [s ++ a, s ++ b]) = (L.flatMap fun s => [s ++ a, s ++ b]) → Mth.Evn (fun k => impl_texts.l1 k a b acc x12 x13 L (L.length : Int) i) r
  | 0, i, acc, hi, hl, he => by
    rw [List.drop_eq_nil_of_le (by omega)] at he
    simp only [List.flatMap_nil, List.append_nil] at he
    rw [← he] at hc
    refine hc.step fun k => ?_
    simp only [impl_texts.l1]
    rw [if_neg (by omega)]
  | d + 1, i, acc, hi, hl, he => by
    have hlt : i < L.length := by omega
    have hz := hs _ (rdOf_mem hlt)
    have ew : wrap64 ((i : Int) + 1) = ((i + 1 : Nat) : Int) := by rw [wrap_id (by omega) (by omega)]; omega
    rw [drop_rd hlt] at he
    simp only [List.flatMap_cons] at he
    have ih := texts_l1 ha hb hn L hL hs x12 x13 hc d (i + 1) (acc ++ [rdOf ByteArray.empty L (i : Int) ++ a, rdOf ByteArray.empty L (i : Int) ++ b]) (by omega) (by simp; omega) (by rw [List.append_assoc]; exact he)
    refine ih.step fun k => ?_
    simp only [impl_texts.l1]
    rw [if_pos (by omega), if_pos (by omega), if_pos (by omega), hz, ha, hb, if_pos (by omega), if_pos (by omega)]
    simp only [Option.bind_some, List.length_cons, List.length_nil]
    rw [if_pos (by omega), ew]
theorem texts_l0 {a b : ByteArray} (ha : a.size = 1) (hb : b.size = 1) (m : Nat) (hm : m ≤ 8) : ∀ d n : Nat, n + d = m → Mth.Evn (fun k => impl_texts.l0 k a b (allT a b n) m n) (allT a b m)
  | 0, n, h => by
    obtain rfl : n = m := by omega
    refine (Mth.Evn.now _).step fun k => ?_
    simp only [impl_texts.l0]
    rw [if_neg (by omega)]
  | d + 1, n, h => by
    have ih := texts_l0 ha hb m hm d (n + 1) (by omega)
    have ew : wrap64 ((n : Int) + 1) = ((n + 1 : Nat) : Int) := by rw [wrap_id (by omega) (by omega)]; omega
    rw [allT, ← ew] at ih
    have hp : 2 ^ n ≤ 2 ^ 8 := Nat.pow_le_pow_right (by omega) (by omega)
    have h1 := texts_l1 ha hb (show n ≤ 8 by omega) (allT a b n) (by rw [allT_len]; exact hp) (allT_sized ha hb n) (m : Int) (n : Int) ih (allT a b n).length 0 [] (by omega) rfl (by simp)
    refine h1.step fun k => ?_
    simp only [impl_texts.l0]
    rw [if_pos (by omega)]
    rfl
theorem texts_ev {a b : ByteArray} (ha : a.size = 1) (hb : b.size = 1) (m : Nat) (hm : m ≤ 8) : Mth.Evn (fun k => impl_texts.f k a b m) (allT a b m) := texts_l0 ha hb m hm m 0 (by omega)
theorem cnAll_l1 {n : Nat} (hn : n ≤ 8) (L : List ByteArray) (hL : L.length ≤ 256) (hs : Sized n L) (x0 : Int) {r : List ByteArray}
    (hc : Mth.Evn (fun k => spec_cnAll.l0 k (wrap64 (x0 - 1)) (L.flatMap fun s => [s ++ (⟨#[100]⟩ : ByteArray), s ++ (⟨#[119]⟩ : ByteArray)])) r) :
    ∀ (d i : Nat) (acc : List ByteArray), i + d = L.length → acc.length = 2 * i → acc ++ ((L.drop i).flatMap fun s => [s ++ (⟨#[100]⟩ : ByteArray), s ++ (⟨#[119]⟩ : ByteArray)]) = (L.flatMap fun s => [s ++ (⟨#[100]⟩ : ByteArray), s ++ (⟨#[119]⟩ : ByteArray)]) → Mth.Evn (fun k => spec_cnAll.l1 k x0 acc L (L.length : Int) i) r
  | 0, i, acc, hi, hl, he => by
    rw [List.drop_eq_nil_of_le (by omega)] at he
    simp only [List.flatMap_nil, List.append_nil] at he
    rw [← he] at hc
    refine hc.step fun k => ?_
    simp only [spec_cnAll.l1]
    rw [if_neg (by omega)]
  | d + 1, i, acc, hi, hl, he => by
    have hlt : i < L.length := by omega
    have hz := hs _ (rdOf_mem hlt)
    have ew : wrap64 ((i : Int) + 1) = ((i + 1 : Nat) : Int) := by rw [wrap_id (by omega) (by omega)]; omega
    rw [drop_rd hlt] at he
    simp only [List.flatMap_cons] at he
    have ih := cnAll_l1 hn L hL hs x0 hc d (i + 1) (acc ++ [rdOf ByteArray.empty L (i : Int) ++ (⟨#[100]⟩ : ByteArray), rdOf ByteArray.empty L (i : Int) ++ (⟨#[119]⟩ : ByteArray)]) (by omega) (by simp; omega) (by rw [List.append_assoc]; exact he)
    refine ih.step fun k => ?_
    simp only [spec_cnAll.l1]
    rw [if_pos (by omega), if_pos (by omega), if_pos (by omega), hz, if_pos (by omega)]
    simp only [Option.bind_some, List.length_cons, List.length_nil]
    rw [if_pos (by omega), ew]
theorem cnAll_l0 : ∀ d n : Nat, n + d ≤ 8 → Mth.Evn (fun k => spec_cnAll.l0 k d (allT (⟨#[100]⟩ : ByteArray) (⟨#[119]⟩ : ByteArray) n)) (allT (⟨#[100]⟩ : ByteArray) (⟨#[119]⟩ : ByteArray) (n + d))
  | 0, n, h => by
    refine (Mth.Evn.now _).step fun k => ?_
    simp only [spec_cnAll.l0]
    rw [if_neg (by omega)]; rfl
  | d + 1, n, h => by
    have ih := cnAll_l0 d (n + 1) (by omega)
    have ew : wrap64 (((d + 1 : Nat) : Int) - 1) = (d : Int) := by rw [wrap_id (by omega) (by omega)]; omega
    rw [allT, ← ew, show n + 1 + d = n + (d + 1) by omega] at ih
    have hp : 2 ^ n ≤ 2 ^ 8 := Nat.pow_le_pow_right (by omega) (by omega)
    have h1 := cnAll_l1 (show n ≤ 8 by omega) (allT _ _ n) (by rw [allT_len]; exact hp) (allT_sized rfl rfl n) ((d + 1 : Nat) : Int) ih (allT (⟨#[100]⟩ : ByteArray) (⟨#[119]⟩ : ByteArray) n).length 0 [] (by omega) rfl (by simp)
    refine h1.step fun k => ?_
    simp only [spec_cnAll.l0]
    rw [if_pos (by omega)]
    rfl
theorem cnAll_ev (m : Nat) (hm : m ≤ 8) : Mth.Evn (fun k => spec_cnAll.f k m) (allT (⟨#[100]⟩ : ByteArray) (⟨#[119]⟩ : ByteArray) m) := by
  have h := cnAll_l0 m 0 (by omega)
  rw [Nat.zero_add] at h
  exact h
theorem wrap_succ (i : Nat) (h : i < 1000000000) : wrap64 ((i : Int) + 1) = ((i + 1 : Nat) : Int) := by rw [wrap_id (by omega) (by omega)]; omega
theorem wrap_pred (i : Nat) (h1 : 1 ≤ i) (h : i < 1000000000) : wrap64 ((i : Int) - 1) = ((i - 1 : Nat) : Int) := by rw [wrap_id (by omega) (by omega)]; omega
/-- Days alone. -/
def Dw (t : ByteArray) : Prop := ∀ i : Int, 0 ≤ i → i < t.size → bt t i = 100 ∨ bt t i = 119
def fo (W D O p q : Int) : Int := if p = q then O - (if p = 100 then W else D) else (if p = 100 then W else D)
def hs (a b P day sign : Int) : Int := if day = 119 then (if sign = 110 then P - b else b) else (if sign = 110 then P - a else a)
def PF (W D O : Int) (t : ByteArray) : Nat → Int
  | 0 => 1
  | j + 1 => PF W D O t j * (if j = 0 then 1 else fo W D O (bt t ((j - 1 : Nat) : Int)) (bt t (j : Int)))
def PS (a b P : Int) (t s : ByteArray) : Nat → Int
  | 0 => 1
  | j + 1 => PS a b P t s j * hs a b P (bt t (j : Int)) (bt s (j : Int))
/-- What days and signs weigh. -/
def wgt (W D O a b P : Int) (t s : ByteArray) : Int := PF W D O t t.size * PS a b P t s t.size
section
variable {W D O a b P : Int} (hO' : O ≤ 10) (hW : 0 ≤ W) (hW' : W ≤ O) (hD : 0 ≤ D) (hD' : D ≤ O) (hP' : P ≤ 10) (ha : 0 ≤ a) (ha' : a ≤ P) (hb : 0 ≤ b) (hb' : b ≤ P)
theorem fo_bd (hO' : O ≤ 10) (hW : 0 ≤ W) (hW' : W ≤ O) (hD : 0 ≤ D) (hD' : D ≤ O) (p q : Int) : 0 ≤ fo W D O p q ∧ fo W D O p q ≤ 10 := by
  unfold fo
  by_cases h : p = 100 <;> by_cases h2 : p = q <;> simp only [h, h2, if_true, if_false] <;> omega
theorem hs_bd (hP' : P ≤ 10) (ha : 0 ≤ a) (ha' : a ≤ P) (hb : 0 ≤ b) (hb' : b ≤ P) (p q : Int) : 0 ≤ hs a b P p q ∧ hs a b P p q ≤ 10 := by
  unfold hs
  by_cases h : p = 119 <;> by_cases h2 : q = 110 <;> simp only [h, h2, if_true, if_false] <;> omega
theorem ten_le {n : Nat} (hn : n ≤ 6) : (1 : Int) ≤ 10 ^ n ∧ (10 : Int) ^ n ≤ 1000000 := by
  have c : (10 : Int) ^ n ≤ 10 ^ 6 := Mth.pow_le_M 10 (by omega) n 6 hn
  have d : (10 : Int) ^ 6 = 1000000 := by decide
  have e := Mth.pow_pos' 10 (by omega) n
  omega
theorem mul_bd {x y : Int} {n : Nat} (h0 : 0 ≤ x) (h1 : x ≤ 10 ^ n) (k0 : 0 ≤ y) (k1 : y ≤ 10) : 0 ≤ x * y ∧ x * y ≤ 10 ^ (n + 1) := by
  rw [Int.pow_succ]
  exact ⟨Int.mul_nonneg h0 k0, Int.mul_le_mul h1 k1 k0 (Int.le_trans h0 h1)⟩
theorem PF_bd (hO' : O ≤ 10) (hW : 0 ≤ W) (hW' : W ≤ O) (hD : 0 ≤ D) (hD' : D ≤ O) (t : ByteArray) : ∀ n, 0 ≤ PF W D O t n ∧ PF W D O t n ≤ 10 ^ n
  | 0 => by rw [PF, Int.pow_zero]; omega
  | n + 1 => by
    have ih := PF_bd hO' hW hW' hD hD' t n
    rw [PF]
    have := fo_bd hO' hW hW' hD hD' (bt t ((n - 1 : Nat) : Int)) (bt t (n : Int))
    refine mul_bd ih.1 ih.2 ?_ ?_ <;> split <;> omega
theorem PS_bd (hP' : P ≤ 10) (ha : 0 ≤ a) (ha' : a ≤ P) (hb : 0 ≤ b) (hb' : b ≤ P) (t s : ByteArray) : ∀ n, 0 ≤ PS a b P t s n ∧ PS a b P t s n ≤ 10 ^ n
  | 0 => by rw [PS, Int.pow_zero]; omega
  | n + 1 => by
    have ih := PS_bd hP' ha ha' hb hb' t s n
    have := hs_bd hP' ha ha' hb hb' (bt t (n : Int)) (bt s (n : Int))
    rw [PS]
    exact mul_bd ih.1 ih.2 this.1 this.2
theorem PF6 (hO' : O ≤ 10) (hW : 0 ≤ W) (hW' : W ≤ O) (hD : 0 ≤ D) (hD' : D ≤ O) (t : ByteArray) {n : Nat} (hn : n ≤ 6) : 0 ≤ PF W D O t n ∧ PF W D O t n ≤ 1000000 :=
  ⟨(PF_bd hO' hW hW' hD hD' t n).1, Int.le_trans (PF_bd hO' hW hW' hD hD' t n).2 (ten_le hn).2⟩
theorem PS6 (hP' : P ≤ 10) (ha : 0 ≤ a) (ha' : a ≤ P) (hb : 0 ≤ b) (hb' : b ≤ P) (t s : ByteArray) {n : Nat} (hn : n ≤ 6) : 0 ≤ PS a b P t s n ∧ PS a b P t s n ≤ 1000000 :=
  ⟨(PS_bd hP' ha ha' hb hb' t s n).1, Int.le_trans (PS_bd hP' ha ha' hb hb' t s n).2 (ten_le hn).2⟩
theorem six_six {x y : Int} (h0 : 0 ≤ x) (h1 : x ≤ 1000000) (k0 : 0 ≤ y) (k1 : y ≤ 1000000) : 0 ≤ x * y ∧ x * y ≤ 1000000000000 := by
  have h := Int.mul_nonneg h0 k0
  have h2 := Int.mul_le_mul h1 k1 k0 (by omega)
  omega
include hO' hW hW' hD hD'
theorem cnNext_ev {p q : Int} (hp : p = 100 ∨ p = 119) (hq : q = 100 ∨ q = 119) : Mth.Evn (fun k => spec_cnNext.f k W D O p q) (fo W D O p q) := by
  have e1 : wrap64 (O - W) = O - W := wrap_id (by omega) (by omega)
  have e2 : wrap64 (O - D) = O - D := wrap_id (by omega) (by omega)
  refine Mth.Evn.step (g := fun _ => some (fo W D O p q)) (fun k => ?_) (Mth.Evn.now _)
  unfold spec_cnNext.f fo
  rcases hp with rfl | rfl <;> rcases hq with rfl | rfl <;> simp [spec_cnNext.j0, e1, e2]
theorem cnFollow_l0 {t : ByteArray} (ht : Dw t) (hn : t.size ≤ 6) : ∀ (d i : Nat) (x7 : Int), 1 ≤ i → i + d = t.size → ∃ z, Mth.Evn (fun k => spec_cnFollow.l0 k t (PF W D O t i) x7 i W D O) (PF W D O t t.size, z)
  | 0, i, x7, h1, hi => by
    obtain rfl : i = t.size := by omega
    refine ⟨x7, (Mth.Evn.now _).step fun k => ?_⟩
    simp only [spec_cnFollow.l0]
    rw [if_neg (by omega)]
  | d + 1, i, x7, h1, hi => by
    obtain ⟨z, ih⟩ := cnFollow_l0 ht hn d (i + 1) (wrap64 (x7 * O)) (by omega) (by omega)
    have b1 := PF6 hO' hW hW' hD hD' t (n := (i + 1)) (by omega)
    have e1 : PF W D O t (i + 1) = PF W D O t i * fo W D O (bt t ((i - 1 : Nat) : Int)) (bt t (i : Int)) := by rw [PF, if_neg (by omega)]
    have nx := cnNext_ev hO' hW hW' hD hD' (ht ((i - 1 : Nat) : Int) (by omega) (by omega)) (ht (i : Int) (by omega) (by omega))
    refine ⟨z, ?_⟩
    have u1 : (i : Int) < (t.size : Int) := by omega
    have u2 : (0 : Int) ≤ ((i - 1 : Nat) : Int) := by omega
    have u3 : ((i - 1 : Nat) : Int) < (t.size : Int) := by omega
    have u4 : (0 : Int) ≤ (i : Int) := by omega
    refine Mth.Evn.step (fun k => by simp only [spec_cnFollow.l0]; rw [if_pos u1, wrap_pred i (by omega) (by omega), if_pos u2, if_pos u3, if_pos u4, wrap_succ i (by omega)]) ?_
    refine nx.bind ?_
    rw [← e1, wrap_id (x := PF W D O t (i + 1)) (by omega) (by omega)]
    exact ih
include hP' ha ha' hb hb'
theorem hdBoth_ev {t s : ByteArray} (ht : Dw t) (h1 : 1 ≤ t.size) (hn : t.size ≤ 6) (hsz : s.size = t.size) : Mth.Evn (fun k => spec_hdBoth.f k W D O a b P t s) (wgt W D O a b P t s) := by
  have go : ∀ d i : Nat, i + d = t.size → Mth.Evn (fun k => spec_hdBoth.l0 k t s (PF W D O t t.size * PS a b P t s i) i W D O a b P) (wgt W D O a b P t s) := by
    intro d
    induction d with
    | zero =>
      intro i hi
      obtain rfl : i = t.size := by omega
      refine (Mth.Evn.now _).step fun k => ?_
      simp only [spec_hdBoth.l0]
      rw [if_neg (by omega)]; rfl
    | succ d ih =>
      intro i hi
      have ih := ih (i + 1) (by omega)
      have b1 := PF6 hO' hW hW' hD hD' t (n := t.size) (by omega)
      have b2 := PS6 hP' ha ha' hb hb' t s (n := (i + 1)) (by omega)
      have b3 := six_six b1.1 b1.2 b2.1 b2.2
      have e1 : PF W D O t t.size * PS a b P t s i * _root_.id (hs a b P (bt t (i : Int)) (bt s (i : Int))) = PF W D O t t.size * PS a b P t s (i + 1) := by rw [PS, Int.mul_assoc]; rfl
      have eS : spec_hdSign.f W D O a b P (bt t (i : Int)) (bt s (i : Int)) = some (_root_.id (hs a b P (bt t (i : Int)) (bt s (i : Int)))) := by
        unfold spec_hdSign.f hs
        rw [wrap_id (x := P - a) (by omega) (by omega), wrap_id (x := P - b) (by omega) (by omega)]
        by_cases c1 : bt t (i : Int) = 119 <;> by_cases c2 : bt s (i : Int) = 110 <;> simp [c1, c2]
      refine ih.step fun k => ?_
      simp only [spec_hdBoth.l0]
      rw [if_pos (by omega), if_pos (by omega), if_pos (by omega), eS]
      simp only [Option.bind_some]
      rw [e1, wrap_id (x := PF W D O t t.size * PS a b P t s (i + 1)) (by omega) (by omega), wrap_succ i (by omega)]
  obtain ⟨z, h⟩ := cnFollow_l0 hO' hW hW' hD hD' ht hn (t.size - 1) 1 1 (by omega) (by omega)
  have e1 : PF W D O t 1 = 1 := by rw [PF, if_pos rfl, PF]; rfl
  rw [e1] at h
  have h0 := go t.size 0 (by omega)
  rw [PS, Int.mul_one] at h0
  have h' : Mth.Evn (fun k => spec_cnFollow.f k W D O t) (PF W D O t t.size, z) := h
  unfold spec_hdBoth.f
  exact h'.bind h0
theorem weight_ev {t s : ByteArray} (ht : Dw t) (hn : t.size ≤ 6) (hsz : s.size = t.size) : Mth.Evn (fun k => impl_Hidden_weight.f k W D O a b P t s) (wgt W D O a b P t s) := by
  have go : ∀ d i : Nat, i + d = t.size → Mth.Evn (fun k => impl_Hidden_weight.l0 k t s (PF W D O t i * PS a b P t s i) (t.size : Int) i W D O a b P) (wgt W D O a b P t s) := by
    intro d
    induction d with
    | zero =>
      intro i hi
      obtain rfl : i = t.size := by omega
      refine (Mth.Evn.now _).step fun k => ?_
      simp only [impl_Hidden_weight.l0]
      rw [if_neg (by omega)]; rfl
    | succ d ih =>
      intro i hi
      have ih := ih (i + 1) (by omega)
      have b0 := PF6 hO' hW hW' hD hD' t (n := i) (by omega)
      have b1 := PF6 hO' hW hW' hD hD' t (n := (i + 1)) (by omega)
      have b2 := PS6 hP' ha ha' hb hb' t s (n := (i + 1)) (by omega)
      have b3 := six_six b1.1 b1.2 b2.1 b2.2
      have b4 := six_six b0.1 b0.2 b2.1 b2.2
      have e1 : PF W D O t i * PS a b P t s i * _root_.id (hs a b P (bt t (i : Int)) (bt s (i : Int))) = PF W D O t i * PS a b P t s (i + 1) := by rw [PS, Int.mul_assoc]; rfl
      have eS : impl_Hidden_weightOf.f W D O a b P (bt t (i : Int)) (bt s (i : Int)) = some (_root_.id (hs a b P (bt t (i : Int)) (bt s (i : Int)))) := by
        unfold impl_Hidden_weightOf.f hs
        rw [wrap_id (x := P - a) (by omega) (by omega), wrap_id (x := P - b) (by omega) (by omega)]
        by_cases c1 : bt t (i : Int) = 119 <;> by_cases c2 : bt s (i : Int) = 110 <;> simp [c1, c2]
      refine ih.step fun k => ?_
      simp only [impl_Hidden_weight.l0]
      rw [if_pos (by omega), if_pos (by omega), if_pos (by omega), if_pos (by omega), eS]
      simp only [Option.bind_some]
      rw [e1, wrap_id (x := PF W D O t i * PS a b P t s (i + 1)) (by omega) (by omega), wrap_succ i (by omega)]
      by_cases h0 : i = 0
      · subst h0
        have e0 : PF W D O t (0 + 1) = 1 := by rw [PF, if_pos rfl, PF]; rfl
        have e00 : PF W D O t 0 = 1 := rfl
        rw [if_pos (by rfl), e0, e00]
      · rw [if_neg (by omega), wrap_pred i (by omega) (by omega), if_pos (by omega), if_pos (by omega)]
        have e2 : PF W D O t (i + 1) * PS a b P t s (i + 1) = PF W D O t i * PS a b P t s (i + 1) * fo W D O (bt t ((i - 1 : Nat) : Int)) (bt t (i : Int)) := by
          rw [PF, if_neg h0]; ac_rfl
        have eL : impl_Chain_leave.f W D O (bt t ((i - 1 : Nat) : Int)) = some (if bt t ((i - 1 : Nat) : Int) = 100 then W else D) := by
          unfold impl_Chain_leave.f; split <;> rfl
        by_cases c : bt t ((i - 1 : Nat) : Int) = bt t (i : Int)
        · rw [if_pos c, eL]
          simp only [Option.bind_some]
          have e3 : wrap64 (O - (if bt t ((i - 1 : Nat) : Int) = 100 then W else D)) = fo W D O (bt t ((i - 1 : Nat) : Int)) (bt t (i : Int)) := by
            unfold fo; rw [if_pos c]; split <;> exact wrap_id (by omega) (by omega)
          rw [e3, ← e2, wrap_id (x := PF W D O t (i + 1) * PS a b P t s (i + 1)) (by omega) (by omega)]
        · rw [if_neg c, eL]
          simp only [Option.bind_some]
          have e3 : (if bt t ((i - 1 : Nat) : Int) = 100 then W else D) = fo W D O (bt t ((i - 1 : Nat) : Int)) (bt t (i : Int)) := by
            unfold fo; rw [if_neg c]
          rw [e3, ← e2, wrap_id (x := PF W D O t (i + 1) * PS a b P t s (i + 1)) (by omega) (by omega)]
  have h0 := go t.size 0 (by omega)
  rw [PS, PF, Int.mul_one] at h0
  exact h0
theorem wgt_bd {t s : ByteArray} (hn : t.size ≤ 6) : 0 ≤ wgt W D O a b P t s ∧ wgt W D O a b P t s ≤ 1000000000000 := by
  have b1 := PF6 hO' hW hW' hD hD' t (n := t.size) (by omega)
  have b2 := PS6 hP' ha ha' hb hb' t s (n := t.size) (by omega)
  exact six_six b1.1 b1.2 b2.1 b2.2
end
/-- The sum over the first texts of a list. -/
def sumT (f : ByteArray → Int) (L : List ByteArray) : Nat → Int
  | 0 => 0
  | i + 1 => sumT f L i + f (rdOf ByteArray.empty L (i : Int))
theorem sumT_bd {f : ByteArray → Int} {L : List ByteArray} (h : ∀ t, t ∈ L → 0 ≤ f t ∧ f t ≤ 1000000000000) : ∀ i, i ≤ L.length → 0 ≤ sumT f L i ∧ sumT f L i ≤ i * 1000000000000
  | 0, _ => by simp [sumT]
  | i + 1, hi => by
    have ih := sumT_bd h i (by omega)
    have := h _ (rdOf_mem (xs := L) (i := i) (by omega))
    rw [sumT]; omega
theorem bt_lt (s a : ByteArray) {i : Nat} (h : i < s.size) : bt (s ++ a) (i : Int) = bt s (i : Int) := by
  unfold bt
  have e : ((i : Nat) : Int).toNat = i := by omega
  simp only [e]
  have h2 : i < (s ++ a).size := by rw [ByteArray.size_append]; omega
  rw [dif_pos h2, dif_pos h, ByteArray.getElem_append_left h]
theorem bt_last (s : ByteArray) (c : UInt8) : bt (s ++ (⟨#[c]⟩ : ByteArray)) (s.size : Int) = (c.toNat : Int) := by
  unfold bt
  have e : ((s.size : Nat) : Int).toNat = s.size := by omega
  have h1 : (⟨#[c]⟩ : ByteArray).size = 1 := rfl
  simp only [e]
  have h2 : s.size < (s ++ (⟨#[c]⟩ : ByteArray)).size := by rw [ByteArray.size_append, h1]; omega
  rw [dif_pos h2, ByteArray.getElem_append_right (Nat.le_refl _)]
  simp
  rfl
theorem dw_all : ∀ n t, t ∈ allT (⟨#[100]⟩ : ByteArray) (⟨#[119]⟩ : ByteArray) n → Dw t
  | 0, t, ht => by
    simp only [allT, List.mem_cons, List.not_mem_nil, or_false] at ht
    subst ht
    intro i h0 h1
    have : (⟨#[]⟩ : ByteArray).size = 0 := rfl
    omega
  | n + 1, t, ht => by
    simp only [allT, List.mem_flatMap, List.mem_cons, List.not_mem_nil, or_false] at ht
    obtain ⟨s, hs, h⟩ := ht
    have ih := dw_all n s hs
    have go (c : UInt8) (hc : (c.toNat : Int) = 100 ∨ (c.toNat : Int) = 119) : Dw (s ++ (⟨#[c]⟩ : ByteArray)) := by
      intro i h0 h1
      have e1 : (⟨#[c]⟩ : ByteArray).size = 1 := rfl
      rw [ByteArray.size_append, e1] at h1
      obtain ⟨j, rfl⟩ : ∃ j : Nat, i = (j : Int) := ⟨i.toNat, by omega⟩
      by_cases h2 : j < s.size
      · rw [bt_lt s _ h2]; exact ih _ (by omega) (by omega)
      · have e2 : j = s.size := by omega
        subst e2
        rw [bt_last]; exact hc
    rcases h with rfl | rfl
    · exact go 100 (.inl rfl)
    · exact go 119 (.inr rfl)
/-- The signs of a text of days. -/
def cvT (t : ByteArray) : Nat → ByteArray
  | 0 => ⟨#[]⟩
  | i + 1 => cvT t i ++ (if bt t (i : Int) = 100 then (⟨#[110]⟩ : ByteArray) else (⟨#[117]⟩ : ByteArray))
theorem cvT_size (t : ByteArray) : ∀ i, (cvT t i).size = i
  | 0 => rfl
  | i + 1 => by
    have h1 : (⟨#[110]⟩ : ByteArray).size = 1 := rfl
    have h2 : (⟨#[117]⟩ : ByteArray).size = 1 := rfl
    rw [cvT, ByteArray.size_append, cvT_size t i]
    split <;> omega
theorem cvT_app (s a : ByteArray) : ∀ i, i ≤ s.size → cvT (s ++ a) i = cvT s i
  | 0, _ => rfl
  | i + 1, h => by rw [cvT, cvT, cvT_app s a i (by omega), bt_lt s a (by omega)]
theorem allT_cv : ∀ m, allT (⟨#[110]⟩ : ByteArray) (⟨#[117]⟩ : ByteArray) m = (allT (⟨#[100]⟩ : ByteArray) (⟨#[119]⟩ : ByteArray) m).map fun t => cvT t m
  | 0 => rfl
  | m + 1 => by
    have hz := allT_sized (a := (⟨#[100]⟩ : ByteArray)) (b := (⟨#[119]⟩ : ByteArray)) rfl rfl m
    rw [allT, allT, allT_cv m]
    generalize allT (⟨#[100]⟩ : ByteArray) (⟨#[119]⟩ : ByteArray) m = L at *
    induction L with
    | nil => rfl
    | cons x xs ih =>
      have hx := hz x (List.mem_cons_self ..)
      have e1 : cvT (x ++ (⟨#[100]⟩ : ByteArray)) (m + 1) = cvT x m ++ (⟨#[110]⟩ : ByteArray) := by
        rw [cvT, cvT_app _ _ _ (by omega), ← hx, bt_last, if_pos (by rfl)]
      have e2 : cvT (x ++ (⟨#[119]⟩ : ByteArray)) (m + 1) = cvT x m ++ (⟨#[117]⟩ : ByteArray) := by
        rw [cvT, cvT_app _ _ _ (by omega), ← hx, bt_last, if_neg (by decide)]
      simp only [List.map_cons, List.flatMap_cons, List.map_append, List.map_nil, e1, e2]
      rw [ih (fun s hs => hz s (List.mem_cons_of_mem _ hs))]
theorem cv_at {m i : Nat} (h : i < (allT (⟨#[100]⟩ : ByteArray) (⟨#[119]⟩ : ByteArray) m).length) : rdOf ByteArray.empty (allT (⟨#[110]⟩ : ByteArray) (⟨#[117]⟩ : ByteArray) m) (i : Int) = cvT (rdOf ByteArray.empty (allT (⟨#[100]⟩ : ByteArray) (⟨#[119]⟩ : ByteArray) m) (i : Int)) m := by
  rw [allT_cv, rdOf_get (by simpa using h), rdOf_get h]; simp
section
variable {W D O a b P : Int} (hO' : O ≤ 10) (hW : 0 ≤ W) (hW' : W ≤ O) (hD : 0 ≤ D) (hD' : D ≤ O) (hP' : P ≤ 10) (ha : 0 ≤ a) (ha' : a ≤ P) (hb : 0 ≤ b) (hb' : b ≤ P)
/-- The sum of what all days weigh with some signs. -/
def V (W D O a b P : Int) (m : Nat) (s : ByteArray) : Int := sumT (fun t => wgt W D O a b P t s) (allT (⟨#[100]⟩ : ByteArray) (⟨#[119]⟩ : ByteArray) m) (2 ^ m)
include hO' hW hW' hD hD' hP' ha ha' hb hb'
theorem sum_step {m : Nat} (hm : m ≤ 6) (s : ByteArray) {i : Nat} (hi : i < 2 ^ m) : wrap64 (sumT (fun t => wgt W D O a b P t s) (allT (⟨#[100]⟩ : ByteArray) (⟨#[119]⟩ : ByteArray) m) i + wgt W D O a b P (rdOf ByteArray.empty (allT (⟨#[100]⟩ : ByteArray) (⟨#[119]⟩ : ByteArray) m) (i : Int)) s) = sumT (fun t => wgt W D O a b P t s) (allT (⟨#[100]⟩ : ByteArray) (⟨#[119]⟩ : ByteArray) m) (i + 1) := by
  have hp : 2 ^ m ≤ 2 ^ 6 := Nat.pow_le_pow_right (by omega) hm
  have hl := allT_len (⟨#[100]⟩ : ByteArray) (⟨#[119]⟩ : ByteArray) m
  have hb1 := sumT_bd (f := fun t => wgt W D O a b P t s) (L := allT (⟨#[100]⟩ : ByteArray) (⟨#[119]⟩ : ByteArray) m) (fun t ht => wgt_bd hO' hW hW' hD hD' hP' ha ha' hb hb' (by rw [allT_sized rfl rfl m t ht]; exact hm)) (i + 1) (by omega)
  have h64 : i + 1 ≤ 64 := Nat.le_trans hi hp
  rw [sumT] at hb1 ⊢
  refine wrap_id (Int.le_trans (by decide) hb1.1) (Int.le_trans hb1.2 ?_)
  have : ((i + 1 : Nat) : Int) ≤ 64 := by omega
  omega
theorem hdSum_ev {m : Nat} (h1 : 1 ≤ m) (hm : m ≤ 6) {s : ByteArray} (hsz : s.size = m) : Mth.Evn (fun k => spec_hdSum.f k W D O a b P s 0 0) (V W D O a b P m s) := by
  have hp : 2 ^ m ≤ 2 ^ 6 := Nat.pow_le_pow_right (by omega) hm
  have hl := allT_len (⟨#[100]⟩ : ByteArray) (⟨#[119]⟩ : ByteArray) m
  have go : ∀ d i : Nat, i + d = 2 ^ m → Mth.Evn (fun k => spec_hdSum.l0 k s 0 0 (sumT (fun t => wgt W D O a b P t s) (allT (⟨#[100]⟩ : ByteArray) (⟨#[119]⟩ : ByteArray) m) i) (allT (⟨#[100]⟩ : ByteArray) (⟨#[119]⟩ : ByteArray) m) ((2 ^ m : Nat) : Int) i W D O a b P) (V W D O a b P m s) := by
    intro d
    induction d with
    | zero =>
      intro i hi
      obtain rfl : i = 2 ^ m := by omega
      refine (Mth.Evn.now _).step fun k => ?_
      simp only [spec_hdSum.l0]
      rw [if_neg (by omega)]; rfl
    | succ d ih =>
      intro i hi
      have ih := ih (i + 1) (by omega)
      have hlt : i < (allT (⟨#[100]⟩ : ByteArray) (⟨#[119]⟩ : ByteArray) m).length := by omega
      have hmem := rdOf_mem hlt
      have hz := allT_sized rfl rfl m _ hmem
      have hv := hdBoth_ev hO' hW hW' hD hD' hP' ha ha' hb hb' (dw_all m _ hmem) (by omega) (by omega) (s := s) (by omega)
      have u1 : (i : Int) < ((2 ^ m : Nat) : Int) := by omega
      have u2 : (0 : Int) ≤ (i : Int) := by omega
      have u3 : (i : Int) < ((allT (⟨#[100]⟩ : ByteArray) (⟨#[119]⟩ : ByteArray) m).length : Int) := by omega
      refine Mth.Evn.step (fun k => by simp only [spec_hdSum.l0, if_true]; rw [if_pos u1, if_pos u2, if_pos u3, wrap_succ i (by omega)]) ?_
      refine hv.bind ?_
      rw [sum_step hO' hW hW' hD hD' hP' ha ha' hb hb' hm s (show i < 2 ^ m by omega)]
      exact ih
  have h0 := go (2 ^ m) 0 (by omega)
  have hc := cnAll_ev m (by omega)
  unfold spec_hdSum.f
  rw [hsz]
  refine hc.bind ?_
  rw [hl]
  exact h0
theorem all_ev {m : Nat} (hm : m ≤ 6) {s : ByteArray} (hsz : s.size = m) : Mth.Evn (fun k => impl_Hidden_all.f k W D O a b P s) (V W D O a b P m s) := by
  have hp : 2 ^ m ≤ 2 ^ 6 := Nat.pow_le_pow_right (by omega) hm
  have hl := allT_len (⟨#[100]⟩ : ByteArray) (⟨#[119]⟩ : ByteArray) m
  have go : ∀ d i : Nat, i + d = 2 ^ m → Mth.Evn (fun k => impl_Hidden_total.l0 k s (sumT (fun t => wgt W D O a b P t s) (allT (⟨#[100]⟩ : ByteArray) (⟨#[119]⟩ : ByteArray) m) i) (allT (⟨#[100]⟩ : ByteArray) (⟨#[119]⟩ : ByteArray) m) ((2 ^ m : Nat) : Int) i W D O a b P) (V W D O a b P m s) := by
    intro d
    induction d with
    | zero =>
      intro i hi
      obtain rfl : i = 2 ^ m := by omega
      refine (Mth.Evn.now _).step fun k => ?_
      simp only [impl_Hidden_total.l0]
      rw [if_neg (by omega)]; rfl
    | succ d ih =>
      intro i hi
      have ih := ih (i + 1) (by omega)
      have hlt : i < (allT (⟨#[100]⟩ : ByteArray) (⟨#[119]⟩ : ByteArray) m).length := by omega
      have hmem := rdOf_mem hlt
      have hz := allT_sized rfl rfl m _ hmem
      have hv := weight_ev hO' hW hW' hD hD' hP' ha ha' hb hb' (dw_all m _ hmem) (by omega) (s := s) (by omega)
      have u1 : (i : Int) < ((2 ^ m : Nat) : Int) := by omega
      have u2 : (0 : Int) ≤ (i : Int) := by omega
      have u3 : (i : Int) < ((allT (⟨#[100]⟩ : ByteArray) (⟨#[119]⟩ : ByteArray) m).length : Int) := by omega
      refine Mth.Evn.step (fun k => by simp only [impl_Hidden_total.l0, impl_Hidden_all_1.f, Option.bind_some, if_true]; rw [if_pos u1, if_pos u2, if_pos u3, wrap_succ i (by omega)]) ?_
      refine hv.bind ?_
      rw [sum_step hO' hW hW' hD hD' hP' ha ha' hb hb' hm s (show i < 2 ^ m by omega)]
      exact ih
  have h0 := go (2 ^ m) 0 (by omega)
  have hc : Mth.Evn (fun k => impl_hiddenDays.f k (m : Int)) (allT (⟨#[100]⟩ : ByteArray) (⟨#[119]⟩ : ByteArray) m) := by
    unfold impl_hiddenDays.f
    exact (texts_ev rfl rfl m (by omega)).bind (Mth.Evn.now _)
  unfold impl_Hidden_all.f impl_Hidden_total.f
  rw [hsz]
  have h2 : Mth.Evn (fun k => (impl_hiddenDays.f k (m : Int)).bind fun t181 => impl_Hidden_total.l0 k s 0 t181 (t181.length : Int) 0 W D O a b P) (V W D O a b P m s) := by
    refine hc.bind ?_
    rw [hl]
    exact h0
  exact h2.bind (Mth.Evn.now _)
/-- The signs that are the likeliest, from a place on. -/
def res (W D O a b P : Int) (m : Nat) : Nat → Nat → ByteArray → Int → ByteArray
  | 0, _, best, _ => best
  | d + 1, i, best, most => if V W D O a b P m (rdOf ByteArray.empty (allT (⟨#[110]⟩ : ByteArray) (⟨#[117]⟩ : ByteArray) m) (i : Int)) > most then res W D O a b P m d (i + 1) (rdOf ByteArray.empty (allT (⟨#[110]⟩ : ByteArray) (⟨#[117]⟩ : ByteArray) m) (i : Int)) (V W D O a b P m (rdOf ByteArray.empty (allT (⟨#[110]⟩ : ByteArray) (⟨#[117]⟩ : ByteArray) m) (i : Int))) else res W D O a b P m d (i + 1) best most
theorem implL_ev {m : Nat} (hm : m ≤ 6) : ∀ (d i : Nat) (best : ByteArray) (most : Int), i + d = 2 ^ m →
    Mth.Evn (fun k => impl_LikeliestSigns.l0 k best most (allT (⟨#[110]⟩ : ByteArray) (⟨#[117]⟩ : ByteArray) m) ((2 ^ m : Nat) : Int) i W D O a b P) (res W D O a b P m d i best most, true)
  | 0, i, best, most, hi => by
    obtain rfl : i = 2 ^ m := by omega
    refine (Mth.Evn.now _).step fun k => ?_
    simp only [impl_LikeliestSigns.l0]
    rw [if_neg (by omega)]; rfl
  | d + 1, i, best, most, hi => by
    have hp : 2 ^ m ≤ 2 ^ 6 := Nat.pow_le_pow_right (by omega) hm
    have hl := allT_len (⟨#[110]⟩ : ByteArray) (⟨#[117]⟩ : ByteArray) m
    have hlt : i < (allT (⟨#[110]⟩ : ByteArray) (⟨#[117]⟩ : ByteArray) m).length := by omega
    have hz := allT_sized rfl rfl m _ (rdOf_mem hlt)
    have hv := all_ev hO' hW hW' hD hD' hP' ha ha' hb hb' hm hz
    have i1 := implL_ev hm d (i + 1) (rdOf ByteArray.empty (allT (⟨#[110]⟩ : ByteArray) (⟨#[117]⟩ : ByteArray) m) (i : Int)) (V W D O a b P m (rdOf ByteArray.empty (allT (⟨#[110]⟩ : ByteArray) (⟨#[117]⟩ : ByteArray) m) (i : Int))) (by omega)
    have i2 := implL_ev hm d (i + 1) best most (by omega)
    have u1 : (i : Int) < ((2 ^ m : Nat) : Int) := by omega
    have u2 : (0 : Int) ≤ (i : Int) := by omega
    have u3 : (i : Int) < ((allT (⟨#[110]⟩ : ByteArray) (⟨#[117]⟩ : ByteArray) m).length : Int) := by omega
    refine Mth.Evn.step (fun k => by simp only [impl_LikeliestSigns.l0]; rw [if_pos u1, if_pos u2, if_pos u3, wrap_succ i (by omega)]) ?_
    refine hv.bind ?_
    rw [res]
    by_cases c : V W D O a b P m (rdOf ByteArray.empty (allT (⟨#[110]⟩ : ByteArray) (⟨#[117]⟩ : ByteArray) m) (i : Int)) > most
    · rw [if_pos c]
      exact Mth.Evn.congr (fun k => if_pos c) i1
    · rw [if_neg c]
      exact Mth.Evn.congr (fun k => if_neg c) i2
theorem specL_ev {m : Nat} (h1 : 1 ≤ m) (hm : m ≤ 6) : ∀ (d i : Nat) (best : ByteArray) (most : Int), i + d = 2 ^ m →
    Mth.Evn (fun k => spec_LikeliestSigns.l0 k m most best (allT (⟨#[100]⟩ : ByteArray) (⟨#[119]⟩ : ByteArray) m) ((2 ^ m : Nat) : Int) i W D O a b P) (res W D O a b P m d i best most, true)
  | 0, i, best, most, hi => by
    obtain rfl : i = 2 ^ m := by omega
    refine (Mth.Evn.now _).step fun k => ?_
    simp only [spec_LikeliestSigns.l0]
    rw [if_neg (by omega)]; rfl
  | d + 1, i, best, most, hi => by
    have hp : 2 ^ m ≤ 2 ^ 6 := Nat.pow_le_pow_right (by omega) hm
    have hl := allT_len (⟨#[100]⟩ : ByteArray) (⟨#[119]⟩ : ByteArray) m
    have hlt : i < (allT (⟨#[100]⟩ : ByteArray) (⟨#[119]⟩ : ByteArray) m).length := by omega
    have hz := allT_sized rfl rfl m _ (rdOf_mem hlt)
    have ec := cv_at hlt
    generalize ht : rdOf ByteArray.empty (allT (⟨#[100]⟩ : ByteArray) (⟨#[119]⟩ : ByteArray) m) (i : Int) = t at *
    have hv := hdSum_ev hO' hW hW' hD hD' hP' ha ha' hb hb' h1 hm (cvT_size t m)
    have i1 := specL_ev h1 hm d (i + 1) (cvT t m) (V W D O a b P m (cvT t m)) (by omega)
    have i2 := specL_ev h1 hm d (i + 1) best most (by omega)
    have u1 : (i : Int) < ((2 ^ m : Nat) : Int) := by omega
    have u2 : (0 : Int) ≤ (i : Int) := by omega
    have u3 : (i : Int) < ((allT (⟨#[100]⟩ : ByteArray) (⟨#[119]⟩ : ByteArray) m).length : Int) := by omega
    have last : Mth.Evn (fun k => (spec_hdSum.f k W D O a b P (cvT t m) 0 0).bind fun t151 => (if t151 > most then (spec_LikeliestSigns.l0 k m t151 (cvT t m) (allT (⟨#[100]⟩ : ByteArray) (⟨#[119]⟩ : ByteArray) m) ((2 ^ m : Nat) : Int) ((i + 1 : Nat) : Int) W D O a b P) else (spec_LikeliestSigns.l0 k m most best (allT (⟨#[100]⟩ : ByteArray) (⟨#[119]⟩ : ByteArray) m) ((2 ^ m : Nat) : Int) ((i + 1 : Nat) : Int) W D O a b P))) (res W D O a b P m (d + 1) i best most, true) := by
      refine hv.bind ?_
      rw [res, ec]
      by_cases c : V W D O a b P m (cvT t m) > most
      · rw [if_pos c]
        exact Mth.Evn.congr (fun k => if_pos c) i1
      · rw [if_neg c]
        exact Mth.Evn.congr (fun k => if_neg c) i2
    have loop : ∀ e j : Nat, j + e = m → Mth.Evn (fun k => spec_LikeliestSigns.l1 k m most best t (cvT t j) j (allT (⟨#[100]⟩ : ByteArray) (⟨#[119]⟩ : ByteArray) m) ((2 ^ m : Nat) : Int) i W D O a b P) (res W D O a b P m (d + 1) i best most, true) := by
      intro e
      induction e with
      | zero =>
        intro j hj
        obtain rfl : j = m := by omega
        refine last.step fun k => ?_
        simp only [spec_LikeliestSigns.l1]
        rw [if_neg (by omega), wrap_succ i (by omega)]
      | succ e ihe =>
        intro j hj
        have ihe := ihe (j + 1) (by omega)
        have hs := cvT_size t j
        refine ihe.step fun k => ?_
        simp only [spec_LikeliestSigns.l1]
        rw [if_pos (by omega), if_pos (by omega), if_pos (by omega), wrap_succ j (by omega), cvT]
        by_cases c : bt t (j : Int) = 100
        · simp only [if_pos c]
          rw [if_pos (by omega)]
        · simp only [if_neg c]
          rw [if_pos (by omega)]
    refine (loop m 0 (by omega)).step fun k => ?_
    simp only [spec_LikeliestSigns.l0]
    rw [if_pos u1, if_pos u2, if_pos u3, ht]
    rfl
end
theorem holds (a0_0 : Int) (a0_1 : Int) (a0_2 : Int) (a0_3 : Int) (a0_4 : Int) (a0_5 : Int) (a1 : Int) (w0_0 : (Lit.int .i64 a0_0).wf = true) (w0_1 : (Lit.int .i64 a0_1).wf = true) (w0_2 : (Lit.int .i64 a0_2).wf = true) (w0_3 : (Lit.int .i64 a0_3).wf = true) (w0_4 : (Lit.int .i64 a0_4).wf = true) (w0_5 : (Lit.int .i64 a0_5).wf = true) (w1 : (Lit.int .i64 a1).wf = true) : ∃ k, laws_FnExactLikeliestSigns.f k a0_0 a0_1 a0_2 a0_3 a0_4 a0_5 a1 = some true := by
  by_cases h : (((1 ≤ a0_2 ∧ a0_2 ≤ 10) ∧ (0 ≤ a0_0 ∧ a0_0 ≤ a0_2) ∧ (0 ≤ a0_1 ∧ a0_1 ≤ a0_2)) ∧ (1 ≤ a0_5 ∧ a0_5 ≤ 10) ∧ (0 ≤ a0_3 ∧ a0_3 ≤ a0_5) ∧ (0 ≤ a0_4 ∧ a0_4 ≤ a0_5)) ∧ 1 ≤ a1 ∧ a1 ≤ 6
  · obtain ⟨hh, m0, m6⟩ := h
    obtain ⟨m, rfl⟩ : ∃ m : Nat, a1 = (m : Int) := ⟨a1.toNat, by omega⟩
    obtain ⟨⟨⟨o1, o2⟩, ⟨w1, w2⟩, d1, d2⟩, ⟨p1, p2⟩, ⟨x1, x2⟩, y1, y2⟩ := id hh
    have hm : m ≤ 6 := by omega
    have hm1 : 1 ≤ m := by omega
    have cm : 1 ≤ (m : Int) ∧ (m : Int) ≤ 6 := ⟨m0, m6⟩
    have hS := specL_ev o2 w1 w2 d1 d2 p2 x1 x2 y1 y2 hm1 hm (2 ^ m) 0 (⟨#[]⟩ : ByteArray) (-1) (by omega)
    have hI := implL_ev o2 w1 w2 d1 d2 p2 x1 x2 y1 y2 hm (2 ^ m) 0 (⟨#[]⟩ : ByteArray) (-1) (by omega)
    generalize res a0_0 a0_1 a0_2 a0_3 a0_4 a0_5 m (2 ^ m) 0 (⟨#[]⟩ : ByteArray) (-1) = R at hS hI
    have jS : Mth.Evn (fun k => spec_LikeliestSigns.j0 k m false a0_0 a0_1 a0_2 a0_3 a0_4 a0_5) (R, true) := by
      refine Mth.Evn.step (fun k => by simp only [spec_LikeliestSigns.j0]; rw [if_neg (by decide)]) ?_
      refine (cnAll_ev m (by omega)).bind ?_
      rw [allT_len]
      exact hS
    have jI : Mth.Evn (fun k => impl_LikeliestSigns.j0 k m false a0_0 a0_1 a0_2 a0_3 a0_4 a0_5) (R, true) := by
      refine Mth.Evn.step (fun k => by simp only [impl_LikeliestSigns.j0]; rw [if_neg (by decide)]) ?_
      refine (texts_ev (a := (⟨#[110]⟩ : ByteArray)) (b := (⟨#[117]⟩ : ByteArray)) rfl rfl m (by omega)).bind ?_
      rw [allT_len]
      exact hI
    obtain ⟨K1, s⟩ := jS
    obtain ⟨K2, u⟩ := jI
    have s' := s (K1 + K2) (Nat.le_add_right _ _)
    have u' := u (K1 + K2) (Nat.le_add_left _ _)
    dsimp only at s' u'
    refine ⟨K1 + K2, ?_⟩
    simp only [laws_FnExactLikeliestSigns.f, laws_toHidden.f, laws_toChain.f, spec_LikeliestSigns.f, impl_LikeliestSigns.f, hdGood_eq, IsHidden_eq, l1In_eq, within_eq, decide_eq_true hh, decide_eq_true cm, Option.bind_some, if_true, Bool.not_true, s', u', bne_self_eq_false, Bool.false_eq_true, if_false]
  · refine ⟨1, ?_⟩
    simp only [laws_FnExactLikeliestSigns.f, laws_toHidden.f, laws_toChain.f, spec_LikeliestSigns.f, impl_LikeliestSigns.f, hdGood_eq, IsHidden_eq, l1In_eq, within_eq, Option.bind_some, decide_eq_true_eq]
    by_cases hh : ((1 ≤ a0_2 ∧ a0_2 ≤ 10) ∧ (0 ≤ a0_0 ∧ a0_0 ≤ a0_2) ∧ (0 ≤ a0_1 ∧ a0_1 ≤ a0_2)) ∧ (1 ≤ a0_5 ∧ a0_5 ≤ 10) ∧ (0 ≤ a0_3 ∧ a0_3 ≤ a0_5) ∧ (0 ≤ a0_4 ∧ a0_4 ≤ a0_5)
    · rw [if_pos hh, if_pos hh, decide_eq_false (fun h2 => h ⟨hh, h2⟩)]
      simp [spec_LikeliestSigns.j0, impl_LikeliestSigns.j0]
    · rw [if_neg hh, if_neg hh]
      simp [spec_LikeliestSigns.j0, impl_LikeliestSigns.j0]
end Go.Proofs.Ytfpbpiodoajpiaa.PureFnExactLikeliestSigns
