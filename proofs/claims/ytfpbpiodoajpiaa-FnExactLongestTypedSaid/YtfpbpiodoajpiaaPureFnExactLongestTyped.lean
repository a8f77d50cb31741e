/- The pure statement of FnExactLongestTyped: both words are of one letter alone, and their means the same sum. No condition. -/
import Derived.Test.YtfpbpiodoajpiaaQFnExactLongestTypedx2
import Derived.Test.YtfpbpiodoajpiaaMath
import Derived.OpenShut
namespace Go.Proofs.Ytfpbpiodoajpiaa.PureFnExactLongestTyped
open Go Go.RowKit Go.Proofs.Ytfpbpiodoajpiaa.QFnExactLongestTyped Go.Proofs.YtfpbpiodoajpiaaW.PrintWords Go.Proofs.YtfpbpiodoajpiaaW.PrintLast Go.Proofs.YtfpbpiodoajpiaaW.PrintMore
set_option linter.unusedVariables false
set_option linter.unusedSimpArgs false

theorem wrap_id {x : Int} (h : -9223372036854775808 ≤ x) (h' : x ≤ 9223372036854775807) : wrap64 x = x := by unfold wrap64; omega
theorem ite_dec (p q : Prop) [Decidable p] [Decidable q] : (if decide p = true then some (decide q) else some false) = some (decide (p ∧ q)) := by
  by_cases h : p <;> simp [h]
theorem some_dec {p q : Prop} [Decidable p] [Decidable q] (h : p ↔ q) : some (decide p) = some (decide q) := by rw [decide_eq_decide.2 h]
theorem div_in {x g : Int} {M : Int} (hM : M ≤ 9223372036854775807) (h : -M ≤ x) (h' : x ≤ M) (hd : g ∣ x) (h0 : g ≠ 0) : wrap64 (Int.tdiv x g) = x / g := by
  rw [Int.tdiv_eq_ediv_of_dvd hd]
  obtain ⟨c, rfl⟩ := hd
  rw [Int.mul_ediv_cancel_left _ h0]
  have : c.natAbs ≤ (g * c).natAbs := by rw [Int.natAbs_mul]; exact Nat.le_mul_of_pos_left _ (by omega)
  exact wrap_id (by omega) (by omega)
theorem l1In_eq (a b c : Int) : spec_l1In.f a b c = some (decide (b ≤ a ∧ a ≤ c)) := by
  unfold spec_l1In.f
  by_cases h : a ≥ b
  · rw [if_pos h]; simp [show b ≤ a from h]
  · rw [if_neg h]; simp; omega
theorem within_eq (a b c : Int) : impl_within.f a b c = some (decide (b ≤ a ∧ a ≤ c)) := by
  unfold impl_within.f
  by_cases h : a ≥ b
  · rw [if_pos h]; simp [show b ≤ a from h]
  · rw [if_neg h]; simp; omega

theorem wrap_succ (i : Nat) (h : i < 1000000000) : wrap64 ((i : Int) + 1) = ((i + 1 : Nat) : Int) := by rw [wrap_id (by omega) (by omega)]; omega
theorem wrap_pred (i : Nat) (h1 : 1 ≤ i) (h : i < 1000000000) : wrap64 ((i : Int) - 1) = ((i - 1 : Nat) : Int) := by rw [wrap_id (by omega) (by omega)]; omega
theorem pow26 {a : Int} (h : 1 ≤ a) (h' : a ≤ 26) {n : Nat} (hn : n ≤ 8) : 1 ≤ a ^ n ∧ a ^ n ≤ 208827064576 := by
  have x := Mth.pow_pos' a h n
  have b := (Mth.pow_bd a 26 (by omega) h' n).2
  have c : (26 : Int) ^ n ≤ 26 ^ 8 := Mth.pow_le_M 26 (by omega) n 8 hn
  have d : (26 : Int) ^ 8 = 208827064576 := by decide
  omega
theorem woPower_l0 {a : Int} (h : 1 ≤ a) (h' : a ≤ 26) : ∀ d n : Nat, n + d ≤ 8 → Mth.Evn (fun k => spec_woPower.l0 k a d (a ^ n)) (a ^ (n + d))
  | 0, n, _ => by
    refine (Mth.Evn.now _).step fun k => ?_
    simp only [spec_woPower.l0]
    rw [if_neg (by omega)]; rfl
  | d + 1, n, hn => by
    have ih := woPower_l0 h h' d (n + 1) (by omega)
    have t := pow26 h h' (n := n + 1) (by omega)
    rw [show n + (d + 1) = n + 1 + d by omega]
    refine ih.step fun k => ?_
    simp only [spec_woPower.l0]
    have ew : wrap64 (((d + 1 : Nat) : Int) - 1) = (d : Int) := by rw [wrap_pred (d + 1) (by omega) (by omega)]; omega
    have e : a ^ n * a = a ^ (n + 1) := (Int.pow_succ a n).symm
    rw [if_pos (by omega), ew, e, wrap_id (x := a ^ (n + 1)) (by omega) (by omega)]
theorem woPower_ev {a : Int} (h : 1 ≤ a) (h' : a ≤ 26) (n : Nat) (hn : n ≤ 8) : Mth.Evn (fun k => spec_woPower.f k a n) (a ^ n) := by
  have := woPower_l0 h h' n 0 (by omega)
  rw [Nat.zero_add, Int.pow_zero] at this
  exact this
theorem power_l0 {a : Int} (h : 1 ≤ a) (h' : a ≤ 26) (m : Nat) (hm : m ≤ 8) : ∀ d n : Nat, n + d = m → Mth.Evn (fun k => impl_power.l0 k a (a ^ n) m n) (a ^ m)
  | 0, n, hn => by
    obtain rfl : n = m := by omega
    refine (Mth.Evn.now _).step fun k => ?_
    simp only [impl_power.l0]
    rw [if_neg (by omega)]
  | d + 1, n, hn => by
    have ih := power_l0 h h' m hm d (n + 1) (by omega)
    have t := pow26 h h' (n := n + 1) (by omega)
    refine ih.step fun k => ?_
    simp only [impl_power.l0]
    have e : a ^ n * a = a ^ (n + 1) := (Int.pow_succ a n).symm
    rw [if_pos (by omega), wrap_succ n (by omega), e, wrap_id (x := a ^ (n + 1)) (by omega) (by omega)]
theorem power_ev {a : Int} (h : 1 ≤ a) (h' : a ≤ 26) (n : Nat) (hn : n ≤ 8) : Mth.Evn (fun k => impl_power.f k a n) (a ^ n) := by
  have := power_l0 h h' n hn n 0 (by omega)
  rw [Int.pow_zero] at this
  exact this
theorem ov_eq : ∀ (k : Nat) (x0 : ByteArray) (x3 : List Int) (x4 : Int), impl_overlaps.l0 k x0 x3 x4 = spec_woOverlaps.l0 k x0 x3 x4
  | 0, _, _, _ => rfl
  | k + 1, x0, x3, x4 => by
    simp only [impl_overlaps.l0, spec_woOverlaps.l0, ov_eq k]
theorem ov_l0 {w : ByteArray} (hw : w.size ≤ 8) : ∀ (d i : Nat) (acc : List Int), 1 ≤ i → i + d = w.size → acc.length ≤ i → (∀ x, x ∈ acc → 1 ≤ x ∧ x ≤ 8) →
    ∃ L : List Int, L.length ≤ w.size ∧ (∀ x, x ∈ L → 1 ≤ x ∧ x ≤ 8) ∧ Mth.Evn (fun k => spec_woOverlaps.l0 k w acc i) L
  | 0, i, acc, h1, hi, hl, ha => by
    refine ⟨acc, by omega, ha, (Mth.Evn.now _).step fun k => ?_⟩
    simp only [spec_woOverlaps.l0]
    rw [if_neg (by omega)]
  | d + 1, i, acc, h1, hi, hl, ha => by
    have ew : wrap64 ((w.size : Int) - (i : Int)) = ((w.size - i : Nat) : Int) := by rw [wrap_id (by omega) (by omega)]; omega
    by_cases c : (w.extract 0 (i : Int).toNat).toList = (w.extract (((w.size - i : Nat) : Int)).toNat w.size).toList
    · obtain ⟨L, l1, l2, l3⟩ := ov_l0 hw d (i + 1) (acc ++ [(i : Int)]) (by omega) (by omega) (by simp; omega) (fun x hx => by
        rcases List.mem_append.1 hx with h | h
        · exact ha x h
        · simp only [List.mem_cons, List.not_mem_nil, or_false] at h
          subst h; omega)
      refine ⟨L, l1, l2, l3.step fun k => ?_⟩
      simp only [spec_woOverlaps.l0]
      rw [if_pos (by omega), if_pos (by omega), if_pos (by omega), ew, if_pos (by omega), if_pos (by omega), if_pos c, if_pos (by omega), wrap_succ i (by omega)]
    · obtain ⟨L, l1, l2, l3⟩ := ov_l0 hw d (i + 1) acc (by omega) (by omega) (by omega) ha
      refine ⟨L, l1, l2, l3.step fun k => ?_⟩
      simp only [spec_woOverlaps.l0]
      rw [if_pos (by omega), if_pos (by omega), if_pos (by omega), ew, if_pos (by omega), if_pos (by omega), if_neg c, wrap_succ i (by omega)]
def sumP (a b : Int) (L : List Int) : Nat → Int
  | 0 => b
  | i + 1 => sumP a b L i + a ^ (rd L (i : Int)).toNat
theorem rd_mem {L : List Int} {i : Nat} (h : i < L.length) : rd L (i : Int) ∈ L := by
  unfold rd
  rw [show ((i : Nat) : Int).toNat = i by omega]
  simp [List.getD_eq_getElem?_getD, h]
theorem sumP_bd {a b : Int} (h : 1 ≤ a) (h' : a ≤ 26) {L : List Int} (hb : 0 ≤ b) (hb' : b ≤ 208827064576) (hL : ∀ x, x ∈ L → 1 ≤ x ∧ x ≤ 8) : ∀ i, i ≤ L.length → 0 ≤ sumP a b L i ∧ sumP a b L i ≤ (i + 1) * 208827064576
  | 0, _ => by rw [sumP]; omega
  | i + 1, hi => by
    have ih := sumP_bd h h' hb hb' hL i (by omega)
    have hx := hL _ (rd_mem (L := L) (i := i) (by omega))
    have t := pow26 h h' (n := (rd L (i : Int)).toNat) (by omega)
    rw [sumP]
    omega
theorem mean_two {a : Int} (h : 1 ≤ a) (h' : a ≤ 26) {w : ByteArray} (h1 : 1 ≤ w.size) (hw : w.size ≤ 8) : ∃ M : Int, Mth.Evn (fun k => spec_woMean.f k a w) M ∧ Mth.Evn (fun k => impl_meanTyped.f k a w) M := by
  obtain ⟨L, l1, l2, l3⟩ := ov_l0 hw (w.size - 1) 1 [] (by omega) (by omega) (by simp) (by simp)
  have t0 := pow26 h h' hw
  have step (i : Nat) (hi : i < L.length) : wrap64 (sumP a (a ^ w.size) L i + a ^ (rd L (i : Int)).toNat) = sumP a (a ^ w.size) L (i + 1) := by
    have b := sumP_bd h h' (by omega) t0.2 l2 (i + 1) (by omega)
    rw [sumP] at b ⊢
    exact wrap_id (by omega) (by omega)
  have e (i : Nat) (hi : i < L.length) : rd L (i : Int) = ((rd L (i : Int)).toNat : Int) ∧ (rd L (i : Int)).toNat ≤ 8 := by
    have hx := l2 _ (rd_mem hi)
    omega
  refine ⟨sumP a (a ^ w.size) L L.length, ?_, ?_⟩
  · have go : ∀ d i : Nat, i + d = L.length → Mth.Evn (fun k => spec_woMean.l0 k a (sumP a (a ^ w.size) L i) L (L.length : Int) i) (sumP a (a ^ w.size) L L.length) := by
      intro d
      induction d with
      | zero =>
        intro i hi
        obtain rfl : i = L.length := by omega
        refine (Mth.Evn.now _).step fun k => ?_
        simp only [spec_woMean.l0]
        rw [if_neg (by omega)]
      | succ d ih =>
        intro i hi
        have ih := ih (i + 1) (by omega)
        have e1 := e i (by omega)
        have pw := woPower_ev h h' (rd L (i : Int)).toNat e1.2
        rw [← e1.1] at pw
        have u1 : (i : Int) < (L.length : Int) := by omega
        have u2 : (0 : Int) ≤ (i : Int) := by omega
        refine Mth.Evn.step (fun k => by simp only [spec_woMean.l0]; rw [if_pos u1, if_pos u2, if_pos u1, wrap_succ i (by omega)]) ?_
        refine pw.bind ?_
        rw [step i (by omega)]
        exact ih
    have p0 := woPower_ev h h' w.size hw
    have g0 := go L.length 0 (by omega)
    have l3' : Mth.Evn (fun k => spec_woOverlaps.f k w) L := l3
    unfold spec_woMean.f
    refine p0.bind ?_
    refine l3'.bind ?_
    exact g0
  · have go : ∀ d i : Nat, i + d = L.length → Mth.Evn (fun k => impl_meanTyped.l0 k a (sumP a (a ^ w.size) L i) L (L.length : Int) i) (sumP a (a ^ w.size) L L.length) := by
      intro d
      induction d with
      | zero =>
        intro i hi
        obtain rfl : i = L.length := by omega
        refine (Mth.Evn.now _).step fun k => ?_
        simp only [impl_meanTyped.l0]
        rw [if_neg (by omega)]
      | succ d ih =>
        intro i hi
        have ih := ih (i + 1) (by omega)
        have e1 := e i (by omega)
        have pw := power_ev h h' (rd L (i : Int)).toNat e1.2
        rw [← e1.1] at pw
        have u1 : (i : Int) < (L.length : Int) := by omega
        have u2 : (0 : Int) ≤ (i : Int) := by omega
        refine Mth.Evn.step (fun k => by simp only [impl_meanTyped.l0]; rw [if_pos u1, if_pos u2, if_pos u1, wrap_succ i (by omega)]) ?_
        refine pw.bind ?_
        rw [step i (by omega)]
        exact ih
    have p0 := power_ev h h' w.size hw
    have g0 := go L.length 0 (by omega)
    have l3' : Mth.Evn (fun k => impl_overlaps.f k w) L := Mth.Evn.congr (fun k => ov_eq k w [] 1) l3
    unfold impl_meanTyped.f
    refine p0.bind ?_
    refine l3'.bind ?_
    exact g0
/-- A word of the first letter alone. -/
def aW (n : Nat) : ByteArray := ⟨(List.replicate n 97).toArray⟩
theorem aW_size (n : Nat) : (aW n).size = n := by unfold aW; simp [ByteArray.size]
theorem aW_succ (n : Nat) : (⟨#[97]⟩ : ByteArray) ++ aW n = aW (n + 1) := by
  unfold aW
  apply ByteArray.ext
  simp [List.replicate_succ]
theorem rep_eq : ∀ n, Lib.repeatL [97] n = List.replicate n 97
  | 0 => rfl
  | n + 1 => by rw [Lib.repeatL, rep_eq n, List.replicate_succ]; rfl
theorem first_letter : (⟨#[97, 98, 99, 100, 101, 102, 103, 104, 105, 106, 107, 108, 109, 110, 111, 112, 113, 114, 115, 116, 117, 118, 119, 120, 121, 122]⟩ : ByteArray).extract 0 1 = ⟨#[97]⟩ := by rfl
theorem woOf_l0 {a : Int} (h : 1 ≤ a) : ∀ d n : Nat, n + d ≤ 8 → Mth.Evn (fun k => spec_woOf.l0 k a d 0 (aW n)) (aW (n + d))
  | 0, n, _ => by
    refine (Mth.Evn.now _).step fun k => ?_
    simp only [spec_woOf.l0]
    rw [if_neg (by omega)]; rfl
  | d + 1, n, hn => by
    have ih := woOf_l0 h d (n + 1) (by omega)
    have z := aW_size n
    have z1 : (⟨#[97]⟩ : ByteArray).size = 1 := rfl
    rw [show n + (d + 1) = n + 1 + d by omega]
    refine ih.step fun k => ?_
    simp only [spec_woOf.l0]
    have e1 : Int.tmod 0 a = 0 := by simp
    have e2 : Int.tdiv 0 a = 0 := by simp
    have e3 : wrap64 (0 + 1) = 1 := (wrap_id (by omega) (by omega)).trans (by omega)
    have e4 : wrap64 0 = 0 := wrap_id (by omega) (by omega)
    have ew : wrap64 (((d + 1 : Nat) : Int) - 1) = (d : Int) := by rw [wrap_pred (d + 1) (by omega) (by omega)]; omega
    have e5 : (0 : Int).toNat = 0 := rfl
    have e6 : (1 : Int).toNat = 1 := rfl
    rw [e1, e2, e3, e4, e5, e6, first_letter, ew, aW_succ, z, z1]
    rw [if_pos (by omega), if_neg (by omega), if_pos (by omega), if_pos (by omega), if_pos (by omega), if_pos (by omega)]
theorem holds (a0 : Int) (a1 : Int) (w0 : (Lit.int .i64 a0).wf = true) (w1 : (Lit.int .i64 a1).wf = true) : ∃ k, laws_FnExactLongestTyped.f k a0 a1 = some true := by
  by_cases h : (1 ≤ a0 ∧ a0 ≤ 26) ∧ 1 ≤ a1 ∧ a1 ≤ 8
  · obtain ⟨⟨h1, h2⟩, h3, h4⟩ := id h
    obtain ⟨n, rfl⟩ : ∃ n : Nat, a1 = (n : Int) := ⟨a1.toNat, by omega⟩
    have s1 := woOf_l0 h1 n 0 (by omega)
    rw [Nat.zero_add] at s1
    obtain ⟨M, m1, m2⟩ := mean_two h1 h2 (w := aW n) (by rw [aW_size]; omega) (by rw [aW_size]; omega)
    obtain ⟨K1, s1⟩ := s1
    obtain ⟨K2, m1⟩ := m1
    obtain ⟨K3, m2⟩ := m2
    have z1 : spec_woOf.f (K1 + K2 + K3) a0 n 0 = some (aW n) := s1 (K1 + K2 + K3) (by omega)
    have z2 := m1 (K1 + K2 + K3) (by omega)
    have z3 := m2 (K1 + K2 + K3) (by omega)
    dsimp only at z2 z3
    have ca : 1 ≤ a0 ∧ a0 ≤ 26 := ⟨h1, h2⟩
    have cn : 1 ≤ (n : Int) ∧ (n : Int) ≤ 8 := ⟨h3, h4⟩
    have er : strings_Repeat.f (⟨#[97]⟩ : ByteArray) (n : Int) = some (aW n) := by
      unfold strings_Repeat.f
      have e : (⟨#[97]⟩ : ByteArray).size = 1 := rfl
      have e2 : (⟨#[97]⟩ : ByteArray).data.toList = [97] := rfl
      rw [if_pos ⟨by omega, by omega, by omega⟩, e2, show ((n : Nat) : Int).toNat = n by omega, rep_eq]; rfl
    refine ⟨K1 + K2 + K3, ?_⟩
    simp only [laws_FnExactLongestTyped.f, spec_LongestTyped.f, impl_LongestTyped.f, spec_woLong.f, spec_woAlphabet.f, impl_areLong.f, l1In_eq, within_eq, decide_eq_true ca, decide_eq_true cn, Option.bind_some, if_true, first_letter, er, z1, z2, z3]
    simp
  · refine ⟨1, ?_⟩
    simp only [laws_FnExactLongestTyped.f, spec_LongestTyped.f, impl_LongestTyped.f, spec_woLong.f, spec_woAlphabet.f, impl_areLong.f, l1In_eq, within_eq, Option.bind_some, decide_eq_true_eq]
    by_cases c : 1 ≤ a0 ∧ a0 ≤ 26
    · by_cases c2 : 1 ≤ a1 ∧ a1 ≤ 8
      · exact absurd ⟨c, c2⟩ h
      · simp [c, c2]
    · simp [c]
end Go.Proofs.Ytfpbpiodoajpiaa.PureFnExactLongestTyped
