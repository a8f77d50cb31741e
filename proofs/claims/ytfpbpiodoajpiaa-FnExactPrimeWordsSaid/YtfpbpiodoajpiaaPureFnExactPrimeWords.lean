/- The pure statement of FnExactPrimeWords: both sides go through the same words in the same order and ask the same of each. No condition. -/
import Derived.Test.YtfpbpiodoajpiaaQFnExactPrimeWordsx5
import Derived.Test.YtfpbpiodoajpiaaMath
import Derived.OpenShut
namespace Go.Proofs.Ytfpbpiodoajpiaa.PureFnExactPrimeWords
open Go Go.RowKit Go.Proofs.Ytfpbpiodoajpiaa.QFnExactPrimeWords Go.Proofs.YtfpbpiodoajpiaaW.PrintWords Go.Proofs.YtfpbpiodoajpiaaW.PrintLast Go.Proofs.YtfpbpiodoajpiaaW.PrintMore
set_option linter.unusedVariables false
set_option linter.unusedSimpArgs false

theorem wrap_id {x : Int} (h : -9223372036854775808 ≤ x) (h' : x ≤ 9223372036854775807) : wrap64 x = x := by unfold wrap64; omega
theorem ite_dec (p q : Prop) [Decidable p] [Decidable q] : (if decide p = true then some (decide q) else some false) = some (decide (p ∧ q)) := by
  by_cases h : p <;> simp [h]
theorem some_dec {p q : Prop} [Decidable p] [Decidable q] (h : p ↔ q) : some (decide p) = some (decide q) := by rw [decide_eq_decide.2 h]
theorem div_in {x g : Int} {M : Int} (hM : M ≤ 9223372036854775807) (h : -M ≤ x) (h' : x ≤ M) (hd : g ∣ x) (h0 : g ≠ 0) : wrap64 (Int.tdiv x g) = x / g := by
  rw [Int.tdiv_eq_ediv_of_dvd hd]
  obtain ⟨c, rfl⟩ := hd
  rw [Int.mul_ediv_cancel_left _ h0]
  have : c.natAbs ≤ (g * c).natAbs := by rw [Int.natAbs_mul]; exact Nat.le_mul_of_pos_left _ (by omega)
  exact wrap_id (by omega) (by omega)
theorem l1In_eq (a b c : Int) : spec_l1In.f a b c = some (decide (b ≤ a ∧ a ≤ c)) := by
  unfold spec_l1In.f
  by_cases h : a ≥ b
  · rw [if_pos h]; simp [show b ≤ a from h]
  · rw [if_neg h]; simp; omega
theorem within_eq (a b c : Int) : impl_within.f a b c = some (decide (b ≤ a ∧ a ≤ c)) := by
  unfold impl_within.f
  by_cases h : a ≥ b
  · rw [if_pos h]; simp [show b ≤ a from h]
  · rw [if_neg h]; simp; omega

theorem wrap_succ (i : Nat) (h : i < 1000000000) : wrap64 ((i : Int) + 1) = ((i + 1 : Nat) : Int) := by rw [wrap_id (by omega) (by omega)]; omega
theorem wrap_pred (i : Nat) (h1 : 1 ≤ i) (h : i < 1000000000) : wrap64 ((i : Int) - 1) = ((i - 1 : Nat) : Int) := by rw [wrap_id (by omega) (by omega)]; omega
theorem pow26 {a : Int} (h : 1 ≤ a) (h' : a ≤ 26) {n : Nat} (hn : n ≤ 8) : 1 ≤ a ^ n ∧ a ^ n ≤ 208827064576 := by
  have x := Mth.pow_pos' a h n
  have b := (Mth.pow_bd a 26 (by omega) h' n).2
  have c : (26 : Int) ^ n ≤ 26 ^ 8 := Mth.pow_le_M 26 (by omega) n 8 hn
  have d : (26 : Int) ^ 8 = 208827064576 := by decide
  omega
theorem woPower_l0 {a : Int} (h : 1 ≤ a) (h' : a ≤ 26) : ∀ d n : Nat, n + d ≤ 8 → Mth.Evn (fun k => spec_woPower.l0 k a d (a ^ n)) (a ^ (n + d))
  | 0, n, _ => by
    refine (Mth.Evn.now _).step fun k => ?_
    simp only [spec_woPower.l0]
    rw [if_neg (by omega)]; rfl
  | d + 1, n, hn => by
    have ih := woPower_l0 h h' d (n + 1) (by omega)
    have t := pow26 h h' (n := n + 1) (by omega)
    rw [show n + (d + 1) = n + 1 + d by omega]
    refine ih.step fun k => ?_
    simp only [spec_woPower.l0]
    have ew : wrap64 (((d + 1 : Nat) : Int) - 1) = (d : Int) := by rw [wrap_pred (d + 1) (by omega) (by omega)]; omega
    have e : a ^ n * a = a ^ (n + 1) := (Int.pow_succ a n).symm
    rw [if_pos (by omega), ew, e, wrap_id (x := a ^ (n + 1)) (by omega) (by omega)]
theorem woPower_ev {a : Int} (h : 1 ≤ a) (h' : a ≤ 26) (n : Nat) (hn : n ≤ 8) : Mth.Evn (fun k => spec_woPower.f k a n) (a ^ n) := by
  have := woPower_l0 h h' n 0 (by omega)
  rw [Nat.zero_add, Int.pow_zero] at this
  exact this
theorem power_l0 {a : Int} (h : 1 ≤ a) (h' : a ≤ 26) (m : Nat) (hm : m ≤ 8) : ∀ d n : Nat, n + d = m → Mth.Evn (fun k => impl_power.l0 k a (a ^ n) m n) (a ^ m)
  | 0, n, hn => by
    obtain rfl : n = m := by omega
    refine (Mth.Evn.now _).step fun k => ?_
    simp only [impl_power.l0]
    rw [if_neg (by omega)]
  | d + 1, n, hn => by
    have ih := power_l0 h h' m hm d (n + 1) (by omega)
    have t := pow26 h h' (n := n + 1) (by omega)
    refine ih.step fun k => ?_
    simp only [impl_power.l0]
    have e : a ^ n * a = a ^ (n + 1) := (Int.pow_succ a n).symm
    rw [if_pos (by omega), wrap_succ n (by omega), e, wrap_id (x := a ^ (n + 1)) (by omega) (by omega)]
theorem power_ev {a : Int} (h : 1 ≤ a) (h' : a ≤ 26) (n : Nat) (hn : n ≤ 8) : Mth.Evn (fun k => impl_power.f k a n) (a ^ n) := by
  have := power_l0 h h' n hn n 0 (by omega)
  rw [Int.pow_zero] at this
  exact this
theorem bytes_eq {a b : ByteArray} (h : a.data.toList = b.data.toList) : a = b := by
  apply ByteArray.ext
  apply Array.ext'
  exact h
theorem tl_iff {a b : ByteArray} : a.toList = b.toList ↔ a = b := by
  rw [Go.ByteArray.toList_eq, Go.ByteArray.toList_eq]
  exact ⟨bytes_eq, fun h => by rw [h]⟩
theorem ext_list (w : ByteArray) (i j : Nat) : (w.extract i j).data.toList = (w.data.toList.take j).drop i := by
  rw [ByteArray.data_extract]
  simp [Array.toList_extract, List.extract_eq_take_drop, List.drop_take]
theorem app_list (a b : ByteArray) : (a ++ b).data.toList = a.data.toList ++ b.data.toList := by
  rw [ByteArray.data_append]; simp
theorem size_list (w : ByteArray) : w.data.toList.length = w.size := by rw [Array.length_toList]; rfl
/-- A turn. -/
def rot (w : ByteArray) (i : Nat) : ByteArray := w.extract i w.size ++ w.extract 0 i
theorem rot_list (w : ByteArray) (i : Nat) : (rot w i).data.toList = w.data.toList.drop i ++ w.data.toList.take i := by
  unfold rot
  rw [app_list, ext_list, ext_list, List.take_of_length_le (by rw [size_list]; omega), List.drop_zero]
theorem rot_zero (w : ByteArray) : rot w 0 = w := bytes_eq (by rw [rot_list]; simp)
theorem rot_size {w : ByteArray} {i : Nat} (h : i ≤ w.size) : (w.extract i w.size).size + (w.extract 0 i).size = w.size := by
  rw [ByteArray.size_extract, ByteArray.size_extract]
  omega
theorem tri : ∀ x y : List UInt8, (Op.bytesLess x y || x == y) = !Op.bytesLess y x
  | [], [] => rfl
  | [], _ :: _ => rfl
  | _ :: _, [] => rfl
  | a :: x, b :: y => by
    have ih := tri x y
    simp only [Op.bytesLess, List.cons_beq_cons]
    by_cases h : a = b
    · subst h
      have : ¬ a < a := UInt8.lt_irrefl a
      simp only [this, decide_false, Bool.false_or, beq_self_eq_true, Bool.true_and]
      exact ih
    · have h2 : ¬ b = a := fun e => h e.symm
      have e1 : (a == b) = false := by simpa using h
      have e2 : (b == a) = false := by simpa using h2
      simp only [e1, e2, Bool.false_and, Bool.or_false]
      by_cases h3 : a < b
      · have : ¬ b < a := fun h4 => by
          have := UInt8.lt_iff_toNat_lt.1 h3
          have := UInt8.lt_iff_toNat_lt.1 h4
          omega
        simp [h3, this]
      · have : b < a := by
          apply UInt8.lt_iff_toNat_lt.2
          have h5 : ¬ a.toNat < b.toNat := fun h6 => h3 (UInt8.lt_iff_toNat_lt.2 h6)
          have h6 : a.toNat ≠ b.toNat := fun h7 => h (UInt8.toNat_inj.1 h7)
          omega
        simp [h3, this]
theorem smin_eq (x y : ByteArray) : smin x y = if Op.bytesLess y.toList x.toList = true then y else x := by
  unfold smin
  rw [tri]
  cases Op.bytesLess y.toList x.toList <;> simp
/-- The first one of the turns from a place on. -/
def fstT (w : ByteArray) : Nat → Nat → ByteArray → ByteArray
  | 0, _, best => best
  | d + 1, i, best => fstT w d (i + 1) (if Op.bytesLess (rot w i).toList best.toList = true then rot w i else best)
theorem bl_irrefl : ∀ x : List UInt8, Op.bytesLess x x = false
  | [] => rfl
  | a :: x => by
    have : ¬ a < a := UInt8.lt_irrefl a
    simp only [Op.bytesLess, bl_irrefl x]
    simp [this]
theorem first_two {w : ByteArray} (h1 : 1 ≤ w.size) (hw : w.size ≤ 8) : ∃ f : ByteArray, Mth.Evn (fun k => impl_firstTurn.f k w) f ∧ Mth.Evn (fun k => spec_woFirst.f k w) f := by
  have goI : ∀ d i : Nat, ∀ best : ByteArray, i + d = w.size → Mth.Evn (fun k => impl_firstTurn.l0 k w best (w.size : Int) i) (fstT w d i best) := by
    intro d
    induction d with
    | zero =>
      intro i best hi
      refine (Mth.Evn.now _).step fun k => ?_
      simp only [impl_firstTurn.l0]
      rw [if_neg (by omega)]; rfl
    | succ d ih =>
      intro i best hi
      have ih := ih (i + 1) (if Op.bytesLess (rot w i).toList best.toList = true then rot w i else best) (by omega)
      have hs := rot_size (w := w) (i := i) (by omega)
      have et : ((i : Nat) : Int).toNat = i := by omega
      refine ih.step fun k => ?_
      simp only [impl_firstTurn.l0, et]
      rw [if_pos (by omega), if_pos (by omega), if_pos (by omega), if_pos (by omega), wrap_succ i (by omega), smin_eq]
      rfl
  have goS : ∀ d i : Nat, ∀ best : ByteArray, i + d = w.size → Mth.Evn (fun k => spec_woFirst.l0 k w best i) (fstT w d i best) := by
    intro d
    induction d with
    | zero =>
      intro i best hi
      refine (Mth.Evn.now _).step fun k => ?_
      simp only [spec_woFirst.l0]
      rw [if_neg (by omega)]; rfl
    | succ d ih =>
      intro i best hi
      have ih := ih (i + 1) (if Op.bytesLess (rot w i).toList best.toList = true then rot w i else best) (by omega)
      have hs := rot_size (w := w) (i := i) (by omega)
      have et : ((i : Nat) : Int).toNat = i := by omega
      refine ih.step fun k => ?_
      simp only [spec_woFirst.l0, et]
      rw [if_pos (by omega), if_pos (by omega), if_pos (by omega), if_pos (by omega), wrap_succ i (by omega)]
      by_cases c : Op.bytesLess (rot w i).toList best.toList = true
      · rw [if_pos c]
        exact if_pos c
      · rw [if_neg c]
        exact if_neg c
  refine ⟨fstT w (w.size - 1) 1 w, ?_, goS (w.size - 1) 1 w (by omega)⟩
  have h0 := goI w.size 0 w (by omega)
  obtain ⟨m, hm⟩ : ∃ m, w.size = m + 1 := ⟨w.size - 1, by omega⟩
  have e : fstT w w.size 0 w = fstT w (w.size - 1) 1 w := by
    rw [hm, fstT, rot_zero, bl_irrefl]
    simp
  rw [e] at h0
  exact h0
theorem rep_comm (p : List UInt8) : ∀ m, Lib.repeatL p m ++ p = p ++ Lib.repeatL p m
  | 0 => by simp [Lib.repeatL]
  | m + 1 => by rw [Lib.repeatL, List.append_assoc, rep_comm p m]
theorem rep_len (p : List UInt8) : ∀ m, (Lib.repeatL p m).length = m * p.length
  | 0 => by simp [Lib.repeatL]
  | m + 1 => by rw [Lib.repeatL, List.length_append, rep_len p m, Nat.succ_mul]; omega
theorem rep_of_comm (p : List UInt8) : ∀ (m : Nat) (r : List UInt8), r.length = m * p.length → r ++ p = p ++ r → r = Lib.repeatL p m
  | 0, r, hl, _ => by
    have : r = [] := List.eq_nil_of_length_eq_zero (by simpa using hl)
    rw [this]; rfl
  | m + 1, r, hl, he => by
    have hge : p.length ≤ r.length := by rw [hl, Nat.succ_mul]; omega
    have h1 : r.take p.length = p := by
      have := congrArg (List.take p.length) he
      rwa [List.take_append_of_le_length hge, List.take_left'] at this
      rfl
    obtain ⟨r', hr⟩ : ∃ r', r = p ++ r' := ⟨r.drop p.length, by have e := List.take_append_drop p.length r; rw [h1] at e; exact e.symm⟩
    subst hr
    have h2 : r' ++ p = p ++ r' := by
      rw [List.append_assoc] at he
      exact List.append_cancel_left he
    have h3 : r'.length = m * p.length := by
      rw [List.length_append, Nat.succ_mul] at hl; omega
    rw [Lib.repeatL, ← rep_of_comm p m r' h3 h2]
/-- A word is what its begin gives again and again just where it is its own turn by as many letters. -/
theorem root_iff {l : List UInt8} {k c : Nat} (hk : l.length = (c + 1) * k) : Lib.repeatL (l.take k) (c + 1) = l ↔ l.drop k ++ l.take k = l := by
  have hkl : k ≤ l.length := by rw [hk, Nat.succ_mul]; omega
  have hp : (l.take k).length = k := by rw [List.length_take]; omega
  constructor
  · intro h
    have h2 : l.drop k = Lib.repeatL (l.take k) c := by
      have e := List.take_append_drop k l
      rw [Lib.repeatL] at h
      exact List.append_cancel_left (e.trans h.symm)
    rw [h2, rep_comm]
    exact h
  · intro h
    have e := List.take_append_drop k l
    have h2 : l.drop k ++ l.take k = l.take k ++ l.drop k := h.trans e.symm
    have h3 := rep_of_comm (l.take k) c (l.drop k) (by rw [List.length_drop, hp, hk, Nat.succ_mul]; omega) h2
    rw [Lib.repeatL, ← h3]
    exact e
theorem size_eq_len (w : ByteArray) : w.size = w.data.toList.length := (size_list w).symm
/-- Both sides find the root's length. -/
theorem root_two {w : ByteArray} (hw : w.size ≤ 8) : ∀ d k : Nat, 1 ≤ k → k + d = w.size → ∃ m, k ≤ m ∧ m ≤ w.size ∧ Mth.Evn (fun q => spec_woRoot.l0 q w k) (m : Int) ∧ Mth.Evn (fun q => impl_root.l0 q w k) (w.extract 0 m) := by
  intro d
  induction d with
  | zero =>
    intro k h1 hk
    have e : k = w.size := by omega
    have et : ((k : Nat) : Int).toNat = k := by omega
    have em : (w.size : Int) % (k : Int) = 0 := by rw [e]; exact Int.emod_self
    have ed : (w.size : Int) / (k : Int) = 1 := by rw [e]; exact Int.ediv_self (by omega)
    have hs := rot_size (w := w) (i := k) (by omega)
    have er : rot w k = w := bytes_eq (by rw [rot_list, List.drop_of_length_le (by rw [size_list]; omega), List.take_of_length_le (by rw [size_list]; omega)]; simp)
    have ex : w.extract 0 k = w := bytes_eq (by rw [ext_list, List.take_of_length_le (by rw [size_list]; omega)]; simp)
    have w1 : wrap64 1 = 1 := wrap_id (by omega) (by omega)
    have ep : strings_Repeat.f (w.extract 0 k) 1 = some w := by
      unfold strings_Repeat.f
      rw [ex, if_pos ⟨by omega, by omega, by omega⟩]
      have : (⟨(Lib.repeatL w.data.toList (1 : Int).toNat).toArray⟩ : ByteArray) = w := bytes_eq (by show (Lib.repeatL w.data.toList 1) = _; simp [Lib.repeatL])
      rw [this]
    refine ⟨k, Nat.le_refl _, by omega, ?_, ?_⟩
    · refine (Mth.Evn.now _).step fun q => ?_
      simp only [spec_woRoot.l0, et]
      rw [if_neg (by omega), if_pos em, if_pos (by omega), if_pos (by omega), if_pos (by omega)]
      exact if_pos (by rw [show (w.extract k w.size ++ w.extract 0 k) = rot w k from rfl, er])
    · refine (Mth.Evn.now _).step fun q => ?_
      simp only [impl_root.l0, et]
      rw [if_neg (by omega), if_pos em, if_pos (by omega), if_pos (by omega), ed, w1, ep]
      simp only [Option.bind_some, if_true]
  | succ d ih =>
    intro k h1 hk
    obtain ⟨m, g1, g2, g3, g4⟩ := ih (k + 1) (by omega) (by omega)
    have et : ((k : Nat) : Int).toNat = k := by omega
    by_cases c : w.size % k = 0
    · have em : (w.size : Int) % (k : Int) = 0 := by omega
      have hmul : w.size = w.size / k * k := by have := Nat.div_add_mod w.size k; rw [c, Nat.add_zero, Nat.mul_comm] at this; exact this.symm
      obtain ⟨q0, hq⟩ : ∃ q0, w.size / k = q0 + 1 := ⟨w.size / k - 1, by
        have : w.size / k ≠ 0 := fun h0 => by rw [h0] at hmul; omega
        generalize w.size / k = z at this
        omega⟩
      have hqle : w.size / k ≤ w.size := Nat.div_le_self _ _
      have edv : (w.size : Int) / (k : Int) = ((w.size / k : Nat) : Int) := rfl
      have w1 : wrap64 ((w.size / k : Nat) : Int) = ((w.size / k : Nat) : Int) := by
        generalize w.size / k = z at hqle
        exact wrap_id (by omega) (by omega)
      have w2 : (0 : Int) ≤ ((w.size / k : Nat) : Int) := Int.natCast_nonneg _
      have w3 : (((w.size / k : Nat) : Int)).toNat = w.size / k := rfl
      have hs := rot_size (w := w) (i := k) (by omega)
      have hx : (w.extract 0 k).size ≤ 8 := by rw [ByteArray.size_extract]; omega
      have xl : (w.extract 0 k).data.toList = w.data.toList.take k := by rw [ext_list]; simp
      have ep : strings_Repeat.f (w.extract 0 k) ((w.size / k : Nat) : Int) = some ⟨(Lib.repeatL (w.data.toList.take k) (w.size / k)).toArray⟩ := by
        unfold strings_Repeat.f
        have w4 : (w.extract 0 k).size * (((w.size / k : Nat) : Int)).toNat ≤ 100 := by
          rw [w3]
          exact Nat.le_trans (Nat.mul_le_mul hx (Nat.le_trans hqle hw)) (by omega)
        rw [if_pos ⟨w2, by omega, by omega⟩, xl, w3]
      have key := root_iff (l := w.data.toList) (k := k) (c := q0) (by rw [size_list, ← hq]; exact hmul)
      rw [← hq] at key
      have e1 : ((⟨(Lib.repeatL (w.data.toList.take k) (w.size / k)).toArray⟩ : ByteArray).toList = w.toList) ↔ Lib.repeatL (w.data.toList.take k) (w.size / k) = w.data.toList := by
        rw [tl_iff]
        constructor
        · intro h; exact congrArg (fun b : ByteArray => b.data.toList) h
        · intro h; exact bytes_eq h
      have e2 : ((w.extract k w.size ++ w.extract 0 k).toList = w.toList) ↔ w.data.toList.drop k ++ w.data.toList.take k = w.data.toList := by
        rw [tl_iff, ← rot_list]
        exact ⟨fun h => congrArg (fun b : ByteArray => b.data.toList) h, fun h => bytes_eq h⟩
      by_cases cr : w.data.toList.drop k ++ w.data.toList.take k = w.data.toList
      · refine ⟨k, Nat.le_refl _, by omega, ?_, ?_⟩
        · refine (Mth.Evn.now _).step fun q => ?_
          simp only [spec_woRoot.l0, et]
          rw [if_neg (by omega), if_pos em, if_pos (by omega), if_pos (by omega), if_pos (by omega), if_pos (e2.2 cr)]
        · refine (Mth.Evn.now _).step fun q => ?_
          simp only [impl_root.l0, et]
          rw [if_neg (by omega), if_pos em, if_pos (by omega), if_pos (by omega), edv, w1, ep]
          simp only [Option.bind_some]
          rw [if_pos (e1.2 (key.2 cr))]
      · refine ⟨m, by omega, g2, ?_, ?_⟩
        · refine g3.step fun q => ?_
          simp only [spec_woRoot.l0, et]
          rw [if_neg (by omega), if_pos em, if_pos (by omega), if_pos (by omega), if_pos (by omega), if_neg (fun h => cr (e2.1 h)), wrap_succ k (by omega)]
        · refine g4.step fun q => ?_
          simp only [impl_root.l0, et]
          rw [if_neg (by omega), if_pos em, if_pos (by omega), if_pos (by omega), edv, w1, ep]
          simp only [Option.bind_some]
          rw [if_neg (fun h => cr (key.1 (e1.1 h))), wrap_succ k (by omega)]
    · have em : ¬ (w.size : Int) % (k : Int) = 0 := by omega
      refine ⟨m, by omega, g2, ?_, ?_⟩
      · refine g3.step fun q => ?_
        simp only [spec_woRoot.l0]
        rw [if_neg (by omega), if_neg em, wrap_succ k (by omega)]
      · refine g4.step fun q => ?_
        simp only [impl_root.l0]
        rw [if_neg (by omega), if_neg em, wrap_succ k (by omega)]
theorem prime_two {w : ByteArray} (h1 : 1 ≤ w.size) (hw : w.size ≤ 8) : ∃ b : Bool, Mth.Evn (fun k => spec_woPrime.f k w) b ∧ Mth.Evn (fun k => impl_isPrime.f k w) b := by
  obtain ⟨f, f1, f2⟩ := first_two h1 hw
  obtain ⟨m, m1, m2, r1, r2⟩ := root_two hw (w.size - 1) 1 (by omega) (by omega)
  have r1' : Mth.Evn (fun k => spec_woRoot.f k w) (m : Int) := r1
  have r2' : Mth.Evn (fun k => impl_root.f k w) (w.extract 0 m) := r2
  have em : ((w.extract 0 m).toList == w.toList) = decide (m = w.size) := by
    rw [Bool.eq_iff_iff]
    simp only [beq_iff_eq, decide_eq_true_eq]
    rw [tl_iff]
    constructor
    · intro h
      have := congrArg ByteArray.size h
      rw [ByteArray.size_extract] at this
      omega
    · intro h
      subst h
      exact bytes_eq (by rw [ext_list, List.take_of_length_le (by rw [size_list]; omega)]; simp)
  refine ⟨decide (m = w.size) && (f.toList == w.toList), ?_, ?_⟩
  · unfold spec_woPrime.f
    refine r1'.bind ?_
    by_cases c : m = w.size
    · refine Mth.Evn.congr (fun k => if_pos (by omega)) ?_
      refine f2.bind ?_
      rw [decide_eq_true c, Bool.true_and]
      exact Mth.Evn.now _
    · refine Mth.Evn.congr (fun k => if_neg (by omega)) ?_
      rw [decide_eq_false c, Bool.false_and]
      exact Mth.Evn.now _
  · unfold impl_isPrime.f
    refine f1.bind ?_
    by_cases c : f.toList = w.toList
    · refine Mth.Evn.congr (fun k => if_pos c) ?_
      refine r2'.bind ?_
      rw [em, c, beq_self_eq_true, Bool.and_true]
      exact Mth.Evn.now _
    · refine Mth.Evn.congr (fun k => if_neg c) ?_
      have : (f.toList == w.toList) = false := by simpa using c
      rw [this, Bool.and_false]
      exact Mth.Evn.now _
/-- The word with a rank. -/
def wl (a : Nat) : Nat → Nat → List UInt8
  | 0, _ => []
  | n + 1, r => wl a n (r / a) ++ [UInt8.ofNat (97 + r % a)]
theorem wl_len (a : Nat) : ∀ n r, (wl a n r).length = n
  | 0, _ => rfl
  | n + 1, r => by rw [wl, List.length_append, wl_len a n]; rfl
def wd (a n r : Nat) : ByteArray := ⟨(wl a n r).toArray⟩
theorem wd_size (a n r : Nat) : (wd a n r).size = n := by
  rw [size_eq_len]; exact wl_len a n r
theorem letter_ex : ∀ c : Fin 26, (⟨#[97, 98, 99, 100, 101, 102, 103, 104, 105, 106, 107, 108, 109, 110, 111, 112, 113, 114, 115, 116, 117, 118, 119, 120, 121, 122]⟩ : ByteArray).extract c.val (c.val + 1) = ⟨#[UInt8.ofNat (97 + c.val)]⟩ := by decide
theorem letter_bt : ∀ c : Fin 26, bt (⟨#[97, 98, 99, 100, 101, 102, 103, 104, 105, 106, 107, 108, 109, 110, 111, 112, 113, 114, 115, 116, 117, 118, 119, 120, 121, 122]⟩ : ByteArray) ((c.val : Nat) : Int) = ((97 + c.val : Nat) : Int) := by decide
theorem tdivmod {a r : Nat} : Int.tmod (r : Int) (a : Int) = ((r % a : Nat) : Int) ∧ Int.tdiv (r : Int) (a : Int) = ((r / a : Nat) : Int) := by
  rw [Int.tmod_eq_emod_of_nonneg (by omega), Int.tdiv_eq_ediv_of_nonneg (by omega)]
  exact ⟨rfl, rfl⟩
theorem woOf_l0 {a : Nat} (h : 1 ≤ a) (h' : a ≤ 26) : ∀ (d r : Nat) (acc : ByteArray), r ≤ 1000000000000 → acc.size + d ≤ 100 → Mth.Evn (fun k => spec_woOf.l0 k a d r acc) (wd a d r ++ acc)
  | 0, r, acc, hr, hd => by
    refine (Mth.Evn.now _).step fun k => ?_
    simp only [spec_woOf.l0]
    rw [if_neg (by omega)]
    exact congrArg some (bytes_eq (by rw [app_list]; rfl))
  | d + 1, r, acc, hr, hd => by
    have hlt : r % a < a := Nat.mod_lt _ (by omega)
    have hdv : r / a ≤ r := Nat.div_le_self _ _
    have ex := letter_ex ⟨r % a, by omega⟩
    dsimp only at ex
    have z1 : (⟨#[UInt8.ofNat (97 + r % a)]⟩ : ByteArray).size = 1 := rfl
    have ih := woOf_l0 h h' d (r / a) ((⟨#[UInt8.ofNat (97 + r % a)]⟩ : ByteArray) ++ acc) (by omega) (by rw [ByteArray.size_append, z1]; omega)
    have e : wd a d (r / a) ++ ((⟨#[UInt8.ofNat (97 + r % a)]⟩ : ByteArray) ++ acc) = wd a (d + 1) r ++ acc := bytes_eq (by
      rw [app_list, app_list, app_list]
      show wl a d (r / a) ++ ([UInt8.ofNat (97 + r % a)] ++ acc.data.toList) = (wl a d (r / a) ++ [UInt8.ofNat (97 + r % a)]) ++ acc.data.toList
      rw [List.append_assoc])
    rw [e] at ih
    have t := @tdivmod a r
    refine ih.step fun k => ?_
    simp only [spec_woOf.l0, t.1, t.2]
    have e1 : wrap64 (((r % a : Nat) : Int) + 1) = ((r % a + 1 : Nat) : Int) := wrap_succ _ (by omega)
    have e2 : wrap64 (((d + 1 : Nat) : Int) - 1) = (d : Int) := by rw [wrap_pred (d + 1) (by omega) (by omega)]; omega
    have e3 : wrap64 ((r / a : Nat) : Int) = ((r / a : Nat) : Int) := by
      generalize r / a = z at hdv
      exact wrap_id (by omega) (by omega)
    have e4 : (((r % a : Nat) : Int)).toNat = r % a := by omega
    have e5 : (((r % a + 1 : Nat) : Int)).toNat = r % a + 1 := by omega
    rw [e1, e4, e5, ex, z1, e2, e3]
    rw [if_pos (by omega), if_neg (by omega), if_pos (by omega), if_pos (by omega), if_pos (by omega), if_pos (by omega)]
theorem set_rep (d : Nat) (v : Int) (l : List Int) : (List.replicate (d + 1) (0 : Int) ++ l).set d v = List.replicate d 0 ++ (v :: l) := by
  rw [List.replicate_succ', List.append_assoc, List.set_append_right _ _ (by simp)]
  simp
theorem wordAt_l0 {a : Nat} (h : 1 ≤ a) (h' : a ≤ 26) : ∀ (d r : Nat) (l : List UInt8), r ≤ 1000000000000 → d ≤ 100 → Mth.Evn (fun k => impl_wordAt.l0 k a r (List.replicate d 0 ++ l.map fun c => (c.toNat : Int)) ((d : Int) - 1)) (⟨(wl a d r ++ l).toArray⟩ : ByteArray)
  | 0, r, l, hr, hd => by
    refine (Mth.Evn.now _).step fun k => ?_
    simp only [impl_wordAt.l0]
    rw [if_neg (by omega)]
    unfold strOfNums
    have : (fun c : UInt8 => UInt8.ofNat ((c.toNat : Int)).toNat) = id := by funext c; simp
    simp only [List.replicate_zero, List.nil_append, List.map_map, Function.comp_def, this, List.map_id, wl]
  | d + 1, r, l, hr, hd => by
    have hlt : r % a < a := Nat.mod_lt _ (by omega)
    have hdv : r / a ≤ r := Nat.div_le_self _ _
    have ih := wordAt_l0 h h' d (r / a) (UInt8.ofNat (97 + r % a) :: l) (by omega) (by omega)
    have eb := letter_bt ⟨r % a, by omega⟩
    dsimp only at eb
    have t := @tdivmod a r
    have el : (List.replicate (d + 1) (0 : Int) ++ l.map fun c => (c.toNat : Int)).length = d + 1 + l.length := by simp
    have en : (UInt8.ofNat (97 + r % a)).toNat = 97 + r % a := by
      rw [UInt8.toNat_ofNat']; omega
    have er : wl a d (r / a) ++ (UInt8.ofNat (97 + r % a) :: l) = wl a (d + 1) r ++ l := by rw [wl, List.append_assoc]; rfl
    rw [er] at ih
    simp only [List.map_cons, en] at ih
    have e0 : ((d + 1 : Nat) : Int) - 1 = (d : Int) := by omega
    rw [e0]
    refine ih.step fun k => ?_
    simp only [impl_wordAt.l0, t.1, t.2]
    have e2 : wrap64 ((d : Int) - 1) = (d : Int) - 1 := wrap_id (by omega) (by omega)
    have e3 : wrap64 ((r / a : Nat) : Int) = ((r / a : Nat) : Int) := by
      generalize r / a = z at hdv
      exact wrap_id (by omega) (by omega)
    have e4 : ((d : Nat) : Int).toNat = d := by omega
    rw [el, eb, e2, e3, e4, set_rep]
    rw [if_pos (by omega), if_neg (by omega), if_pos (by omega), if_pos (by omega), if_pos (by omega), if_pos (by omega)]
theorem words_two {a n r : Nat} (h : 1 ≤ a) (h' : a ≤ 26) (hn : n ≤ 8) (hr : r ≤ 1000000) : Mth.Evn (fun k => spec_woOf.f k a n r) (wd a n r) ∧ Mth.Evn (fun k => impl_wordAt.f k a n r) (wd a n r) := by
  constructor
  · have := woOf_l0 h h' n r (⟨#[]⟩ : ByteArray) (by omega) (by show 0 + n ≤ 100; omega)
    have e : wd a n r ++ (⟨#[]⟩ : ByteArray) = wd a n r := bytes_eq (by rw [app_list]; simp)
    rw [e] at this
    exact this
  · have := wordAt_l0 h h' n r [] (by omega) (by omega)
    simp only [List.map_nil, List.append_nil] at this
    have e2 : wrap64 ((n : Int) - 1) = (n : Int) - 1 := wrap_id (by omega) (by omega)
    refine Mth.Evn.congr (fun k => ?_) this
    unfold impl_wordAt.f
    rw [if_pos (by omega), if_pos (by omega), e2, show ((n : Nat) : Int).toNat = n by omega]
theorem powers_two {a n : Nat} (h : 1 ≤ a) (ha : a ≤ 26) (hn : n ≤ 8) : Mth.Evn (fun k => spec_woPower.f k a n) ((a ^ n : Nat) : Int) ∧ Mth.Evn (fun k => impl_power.f k a n) ((a ^ n : Nat) : Int) := by
  have h1 := woPower_ev (a := (a : Int)) (by omega) (by omega) n hn
  have h2 := power_ev (a := (a : Int)) (by omega) (by omega) n hn
  rw [← Int.natCast_pow] at h1 h2
  exact ⟨h1, h2⟩
/-- The prime words below a rank: both sides list the same ones. -/
theorem primes_two {a n : Nat} (h : 1 ≤ a) (h' : a ≤ 26) (h1 : 1 ≤ n) (hn : n ≤ 8) (hN : a ^ n ≤ 300) : ∃ L : List ByteArray, L.length ≤ 300 ∧ (∀ w, w ∈ L → w.size = n) ∧ Mth.Evn (fun k => spec_woPrimes.f k a n) L ∧ Mth.Evn (fun k => impl_primes.f k a n) L := by
  obtain ⟨pS, pI⟩ := powers_two h h' hn
  generalize a ^ n = N at *
  have go : ∀ (d i : Nat) (acc : List ByteArray), i + d = N → acc.length ≤ i → (∀ w, w ∈ acc → w.size = n) → ∃ L : List ByteArray, L.length ≤ 300 ∧ (∀ w, w ∈ L → w.size = n) ∧ Mth.Evn (fun k => spec_woPrimes.l0 k a n acc i) L ∧ Mth.Evn (fun k => impl_primes.l0 k a n acc (N : Int) i) L := by
    intro d
    induction d with
    | zero =>
      intro i acc hi hl hw
      refine ⟨acc, by omega, hw, ?_, ?_⟩
      · refine Mth.Evn.step (fun k => by simp only [spec_woPrimes.l0]; rfl) ?_
        refine pS.bind ?_
        exact Mth.Evn.congr (fun k => if_neg (by omega)) (Mth.Evn.now _)
      · refine (Mth.Evn.now _).step fun k => ?_
        simp only [impl_primes.l0]
        rw [if_neg (by omega)]
    | succ d ih =>
      intro i acc hi hl hw
      obtain ⟨w1, w2⟩ := words_two (a := a) (n := n) (r := i) h h' hn (by omega)
      have hz := wd_size a n i
      obtain ⟨b, b1, b2⟩ := prime_two (w := wd a n i) (by omega) (by omega)
      have u1 : (i : Int) < (N : Int) := by omega
      have hlt : acc.length < 8796093022208 := by omega
      obtain ⟨L, l1, lw, l2, l3⟩ := ih (i + 1) (if b = true then acc ++ [wd a n i] else acc) (by omega) (by split <;> (first | (simp; omega) | omega)) (fun w hm => by
        split at hm
        · rcases List.mem_append.1 hm with hm | hm
          · exact hw w hm
          · simp only [List.mem_cons, List.not_mem_nil, or_false] at hm
            rw [hm]; exact hz
        · exact hw w hm)
      refine ⟨L, l1, lw, ?_, ?_⟩
      · refine Mth.Evn.step (fun k => by simp only [spec_woPrimes.l0]; rfl) ?_
        refine pS.bind ?_
        refine Mth.Evn.congr (fun k => if_pos u1) ?_
        refine w1.bind ?_
        refine b1.bind ?_
        refine Mth.Evn.congr (fun k => ?_) l2
        rw [wrap_succ i (by omega)]
        cases b with
        | true => rw [if_pos rfl, if_pos hlt, if_pos rfl]
        | false => rw [if_neg (by simp), if_neg (by simp)]
      · refine Mth.Evn.step (fun k => by simp only [impl_primes.l0]; rw [if_pos u1]) ?_
        refine w2.bind ?_
        refine b2.bind ?_
        refine Mth.Evn.congr (fun k => ?_) l3
        rw [wrap_succ i (by omega)]
        cases b with
        | true => rw [if_pos rfl, if_pos hlt, if_pos rfl]
        | false => rw [if_neg (by simp), if_neg (by simp)]
  obtain ⟨L, l1, lw, l2, l3⟩ := go N 0 [] (by omega) (by simp) (by simp)
  refine ⟨L, l1, lw, l2, ?_⟩
  unfold impl_primes.f
  exact pI.bind l3
theorem rds_get (xs : List ByteArray) (i : Int) (h : i.toNat < xs.length) : rdOf ByteArray.empty xs i = xs[i.toNat] := by unfold rdOf; rw [List.getD_eq_getElem?_getD, List.getElem?_eq_getElem h]; rfl
theorem rds_set (xs : List ByteArray) (i : Int) (v : ByteArray) (h : i.toNat < xs.length) : rdOf ByteArray.empty (xs.set i.toNat v) i = v := by
  rw [rds_get _ _ (by simpa using h)]; simp
theorem rds_set_ne (xs : List ByteArray) (i j : Int) (v : ByteArray) (h : i.toNat ≠ j.toNat) : rdOf ByteArray.empty (xs.set i.toNat v) j = rdOf ByteArray.empty xs j := by
  unfold rdOf; rw [List.getD_eq_getElem?_getD, List.getD_eq_getElem?_getD, List.getElem?_set_ne h]
theorem eqStringS_ev (xs : List ByteArray) (hl : xs.length ≤ 1048576) : Mth.Evn (fun k => laws_eqStringS.f k xs xs) true := by
  have go : ∀ (d : Nat) (i : Int), 0 ≤ i → i + d = xs.length → Mth.Evn (fun k => laws_eqStringS.l0 k xs xs i) true := by
    intro d
    induction d with
    | zero =>
      intro i h0 hi
      refine (Mth.Evn.now _).step fun k => ?_
      simp only [laws_eqStringS.l0]; rw [if_neg (by omega)]
    | succ d ih =>
      intro i h0 hi
      refine (ih (i + 1) (by omega) (by omega)).step fun k => ?_
      simp only [laws_eqStringS.l0]
      rw [if_pos (by omega), if_pos h0, if_pos (by omega), if_pos trivial, wrap_id (x := i + 1) (by omega) (by omega)]
  unfold laws_eqStringS.f
  refine Mth.Evn.congr (fun k => if_pos rfl) ?_
  exact go xs.length 0 (by omega) (by omega)
theorem mt_l0 : ∀ (n : Nat) (m : Int) (acc : ByteArray), m ≤ n → 0 ≤ m → acc.size + n ≤ 100000000 → ∃ b, Mth.Evn (fun k => laws_markText.l0 k m acc) b
  | n, m, acc, hn, h0, hs => by
    by_cases c : m > 0
    · obtain ⟨n', rfl⟩ : ∃ n', n = n' + 1 := ⟨n - 1, by omega⟩
      have z : ∀ v : Int, (strOfNums [v]).size = 1 := fun v => rfl
      have e : Int.tdiv m 10 = m / 10 := Int.tdiv_eq_ediv_of_nonneg h0
      have w : wrap64 (m / 10) = m / 10 := wrap_id (by omega) (by omega)
      obtain ⟨b, hb⟩ := mt_l0 n' (m / 10) (strOfNums [(wrap64 (48 + (Int.tmod m 10))) % 256] ++ acc) (by omega) (by omega) (by rw [ByteArray.size_append, z]; omega)
      refine ⟨b, hb.step fun k => ?_⟩
      simp only [laws_markText.l0, e, Option.bind_some, z]
      rw [if_pos c, if_pos (by omega), w]
    · refine ⟨(⟨#[109]⟩ : ByteArray) ++ acc, (Mth.Evn.now _).step fun k => ?_⟩
      simp only [laws_markText.l0]
      rw [if_neg c, if_pos (by omega)]
theorem mt_ex (m : Int) (h : m ≤ 4000000) : ∃ b, Mth.Evn (fun k => laws_markText.f k m) b := by
  unfold laws_markText.f
  by_cases c : m ≤ 0
  · exact ⟨_, Mth.Evn.congr (fun k => if_pos c) (Mth.Evn.now _)⟩
  · obtain ⟨b, hb⟩ := mt_l0 m.toNat m (⟨#[]⟩ : ByteArray) (by omega) (by omega) (by show 0 + m.toNat ≤ _; omega)
    exact ⟨b, Mth.Evn.congr (fun k => if_neg c) hb⟩
open Classical in
noncomputable def mtx (m : Int) : ByteArray := if h : ∃ b, Mth.Evn (fun k => laws_markText.f k m) b then Classical.choose h else ByteArray.empty
theorem mt_ev (m : Int) (h : m ≤ 4000000) : Mth.Evn (fun k => laws_markText.f k m) (mtx m) := by
  unfold mtx
  rw [dif_pos (mt_ex m h)]
  exact Classical.choose_spec (mt_ex m h)
theorem markStringS_l0 : ∀ (d : Nat) (xs : List ByteArray) (m i : Int), xs.length ≤ 1048576 → 0 ≤ i → i + d = xs.length → 0 ≤ m → m + d ≤ 4000000 →
    ∃ r : List ByteArray, r.length = xs.length ∧ (∀ j : Int, 0 ≤ j → j < i → rdOf ByteArray.empty r j = rdOf ByteArray.empty xs j) ∧ (∀ j : Int, i ≤ j → j < xs.length → rdOf ByteArray.empty r j = mtx (m + (j - i))) ∧
      Mth.Evn (fun k => laws_markStringS.l0 k xs m i) (m + d, r)
  | 0, xs, m, i, hx, h0, hi, hm, hb => by
    refine ⟨xs, rfl, fun j _ _ => rfl, fun j h1 h2 => by omega, ?_⟩
    refine (Mth.Evn.now _).step fun k => ?_
    simp only [laws_markStringS.l0]; rw [if_neg (by omega)]
    simp
  | d + 1, xs, m, i, hx, h0, hi, hm, hb => by
    have hlt : i.toNat < xs.length := by omega
    obtain ⟨r, hr, hlo, hhi, hev⟩ := markStringS_l0 d (xs.set i.toNat (mtx m)) (m + 1) (i + 1) (by simpa using hx) (by omega) (by simp; omega) (by omega) (by omega)
    refine ⟨r, by simpa using hr, fun j h1 h2 => ?_, fun j h1 h2 => ?_, ?_⟩
    · rw [hlo j h1 (by omega), rds_set_ne _ _ _ _ (by omega)]
    · by_cases e : j = i
      · subst e
        rw [hlo j h0 (by omega), rds_set _ _ _ hlt]; congr 1; omega
      · rw [hhi j (by omega) (by simpa using h2)]; congr 1; omega
    · rw [show m + ((d + 1 : Nat) : Int) = m + 1 + (d : Int) by omega]
      refine Mth.Evn.step (fun k => by simp only [laws_markStringS.l0]; rw [if_pos (by omega)]) ?_
      refine (mt_ev m (by omega)).bind ?_
      refine Mth.Evn.congr (fun k => ?_) hev
      rw [if_pos h0, wrap_id (x := m + 1) (by omega) (by omega), wrap_id (x := i + 1) (by omega) (by omega)]
theorem heldStringS_l0 (r : List ByteArray) (m0 : Int) (hgood : ∀ j : Int, 0 ≤ j → j < r.length → rdOf ByteArray.empty r j = mtx (m0 + j)) (hm : 0 ≤ m0) (hb : m0 + r.length ≤ 4000000) : ∀ (d : Nat) (i : Int), 0 ≤ i → i + d = r.length →
    Mth.Evn (fun k => laws_heldStringS.l0 k r (m0 + i) i) (m0 + r.length)
  | 0, i, h0, hi => by
    refine (Mth.Evn.now _).step fun k => ?_
    simp only [laws_heldStringS.l0]; rw [if_neg (by omega)]
    congr 1; omega
  | d + 1, i, h0, hi => by
    have ih := heldStringS_l0 r m0 hgood hm hb d (i + 1) (by omega) (by omega)
    refine Mth.Evn.step (fun k => by simp only [laws_heldStringS.l0]; rw [if_pos (by omega), if_pos h0]) ?_
    refine (mt_ev (m0 + i) (by omega)).bind ?_
    refine Mth.Evn.congr (fun k => ?_) ih
    rw [hgood i h0 (by omega), if_pos rfl, wrap_id (x := m0 + i + 1) (by omega) (by omega), wrap_id (x := i + 1) (by omega) (by omega), show m0 + i + 1 = m0 + (i + 1) by omega]
theorem mark_held_string (xs : List ByteArray) (hl : xs.length ≤ 1048576) :
    ∃ r : List ByteArray, Mth.Evn (fun k => laws_markStringS.f k xs 1) (1 + xs.length, r) ∧ Mth.Evn (fun k => laws_heldStringS.f k r 1) (1 + xs.length) := by
  obtain ⟨r, hr, _, hhi, hev⟩ := markStringS_l0 xs.length xs 1 0 hl (by omega) (by omega) (by omega) (by omega)
  refine ⟨r, hev, ?_⟩
  have := heldStringS_l0 r 1 (fun j h1 h2 => by rw [hhi j h1 (by omega)]; congr 1; omega) (by omega) (by omega) r.length 0 (by omega) (by omega)
  rw [hr] at this
  exact this
theorem holds (a0 : Int) (a1 : Int) (w0 : (Lit.int .i64 a0).wf = true) (w1 : (Lit.int .i64 a1).wf = true) : ∃ k, laws_FnExactPrimeWords.f k a0 a1 = some true := by
  have hE : Mth.Evn (fun k => laws_FnExactPrimeWords.f k a0 a1) true := by
    have core : ∃ (L : List ByteArray) (b : Bool), L.length ≤ 300 ∧ Mth.Evn (fun k => spec_PrimeWords.f k a0 a1) (L, b) ∧ Mth.Evn (fun k => impl_PrimeWords.f k a0 a1) (L, b) := by
      by_cases c1 : 1 ≤ a0 ∧ a0 ≤ 26
      · by_cases c2 : 1 ≤ a1 ∧ a1 ≤ 8
        · obtain ⟨a, rfl⟩ : ∃ m : Nat, a0 = (m : Int) := ⟨a0.toNat, by omega⟩
          obtain ⟨n, rfl⟩ : ∃ m : Nat, a1 = (m : Int) := ⟨a1.toNat, by omega⟩
          obtain ⟨p1, p2⟩ := powers_two (a := a) (n := n) (by omega) (by omega) (by omega)
          have f1 : Mth.Evn (fun k => spec_woFew.f k a n) (decide (a ^ n ≤ 300)) := by
            refine Mth.Evn.congr (g := fun k => (spec_woPower.f k a n).bind fun t => some (decide (t ≤ 300))) (fun k => ?_) ?_
            · simp only [spec_woFew.f, spec_woLong.f, spec_woAlphabet.f, l1In_eq, Option.bind_some]
              simp [c1, c2]
            · refine p1.bind ?_
              rw [show decide (((a ^ n : Nat) : Int) ≤ 300) = decide (a ^ n ≤ 300) by
                rw [decide_eq_decide]; generalize a ^ n = z; omega]
              exact Mth.Evn.now _
          have f2 : Mth.Evn (fun k => impl_areFew.f k a n) (decide (a ^ n ≤ 300)) := by
            refine Mth.Evn.congr (g := fun k => (impl_power.f k a n).bind fun t => some (decide (t ≤ 300))) (fun k => ?_) ?_
            · simp only [impl_areFew.f, impl_areLong.f, within_eq, Option.bind_some]
              simp [c1, c2]
            · refine p2.bind ?_
              rw [show decide (((a ^ n : Nat) : Int) ≤ 300) = decide (a ^ n ≤ 300) by
                rw [decide_eq_decide]; generalize a ^ n = z; omega]
              exact Mth.Evn.now _
          by_cases c3 : a ^ n ≤ 300
          · obtain ⟨L, l1, _, l2, l3⟩ := primes_two (a := a) (n := n) (by omega) (by omega) (by omega) (by omega) c3
            rw [decide_eq_true c3] at f1 f2
            refine ⟨L, true, l1, ?_, ?_⟩
            · unfold spec_PrimeWords.f
              refine f1.bind ?_
              refine Mth.Evn.congr (fun k => if_pos rfl) ?_
              exact l2.bind (Mth.Evn.now _)
            · unfold impl_PrimeWords.f
              refine f2.bind ?_
              refine Mth.Evn.congr (fun k => if_pos rfl) ?_
              exact l3.bind (Mth.Evn.now _)
          · rw [decide_eq_false c3] at f1 f2
            refine ⟨[], false, by simp, ?_, ?_⟩
            · unfold spec_PrimeWords.f
              refine f1.bind ?_
              exact Mth.Evn.congr (fun k => if_neg (by simp)) (Mth.Evn.now _)
            · unfold impl_PrimeWords.f
              refine f2.bind ?_
              exact Mth.Evn.congr (fun k => if_neg (by simp)) (Mth.Evn.now _)
        · refine ⟨[], false, by simp, ?_, ?_⟩
          · refine Mth.Evn.congr (fun k => ?_) (Mth.Evn.now _)
            simp only [spec_PrimeWords.f, spec_woFew.f, spec_woLong.f, spec_woAlphabet.f, l1In_eq, Option.bind_some]
            simp [c1, c2]
          · refine Mth.Evn.congr (fun k => ?_) (Mth.Evn.now _)
            simp only [impl_PrimeWords.f, impl_areFew.f, impl_areLong.f, within_eq, Option.bind_some]
            simp [c1, c2]
      · refine ⟨[], false, by simp, ?_, ?_⟩
        · refine Mth.Evn.congr (fun k => ?_) (Mth.Evn.now _)
          simp only [spec_PrimeWords.f, spec_woFew.f, spec_woLong.f, spec_woAlphabet.f, l1In_eq, Option.bind_some]
          simp [c1]
        · refine Mth.Evn.congr (fun k => ?_) (Mth.Evn.now _)
          simp only [impl_PrimeWords.f, impl_areFew.f, impl_areLong.f, within_eq, Option.bind_some]
          simp [c1]
    obtain ⟨L, b, hL, hs, hi⟩ := core
    have he := eqStringS_ev L (by omega)
    obtain ⟨r2, hm2, hh2⟩ := mark_held_string L (by omega)
    have e1 : (b != b) = false := by simp
    simp only [laws_FnExactPrimeWords.f]
    refine hs.bind ?_
    refine hi.bind ?_
    refine he.bind ?_
    refine Mth.Evn.congr (fun k => if_pos rfl) ?_
    simp only [e1]
    refine Mth.Evn.step (fun k => by simp only [laws_FnExactPrimeWords.j0]; rw [if_neg (by simp)]) ?_
    refine hm2.bind ?_
    refine hh2.bind ?_
    refine Mth.Evn.congr (fun k => (if_neg (by omega)).trans (if_pos rfl)) ?_
    refine hi.bind ?_
    refine he.bind ?_
    refine Mth.Evn.congr (fun k => if_pos rfl) ?_
    simp only [e1]
    refine Mth.Evn.step (fun k => by simp only [laws_FnExactPrimeWords.j1]; rw [if_neg (by simp)]) ?_
    refine hh2.bind ?_
    refine Mth.Evn.congr (fun k => (if_neg (by omega)).trans (if_pos rfl)) ?_
    exact Mth.Evn.now _
  exact hE.get
end Go.Proofs.Ytfpbpiodoajpiaa.PureFnExactPrimeWords
