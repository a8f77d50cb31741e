/- The pure statement of FnExactRingWithAll: the words that are put one by one at their places are the sorted words: the same list. No condition. -/
import Derived.Test.YtfpbpiodoajpiaaQFnExactRingWithAllx4
import Derived.Test.YtfpbpiodoajpiaaMath
import Derived.OpenShut
namespace Go.Proofs.Ytfpbpiodoajpiaa.PureFnExactRingWithAll
open Go Go.RowKit Go.Proofs.Ytfpbpiodoajpiaa.QFnExactRingWithAll Go.Proofs.YtfpbpiodoajpiaaW.PrintWords Go.Proofs.YtfpbpiodoajpiaaW.PrintLast Go.Proofs.YtfpbpiodoajpiaaW.PrintMore
set_option linter.unusedVariables false
set_option linter.unusedSimpArgs false

theorem wrap_id {x : Int} (h : -9223372036854775808 ≤ x) (h' : x ≤ 9223372036854775807) : wrap64 x = x := by unfold wrap64; omega
theorem ite_dec (p q : Prop) [Decidable p] [Decidable q] : (if decide p = true then some (decide q) else some false) = some (decide (p ∧ q)) := by
  by_cases h : p <;> simp [h]
theorem some_dec {p q : Prop} [Decidable p] [Decidable q] (h : p ↔ q) : some (decide p) = some (decide q) := by rw [decide_eq_decide.2 h]
theorem div_in {x g : Int} {M : Int} (hM : M ≤ 9223372036854775807) (h : -M ≤ x) (h' : x ≤ M) (hd : g ∣ x) (h0 : g ≠ 0) : wrap64 (Int.tdiv x g) = x / g := by
  rw [Int.tdiv_eq_ediv_of_dvd hd]
  obtain ⟨c, rfl⟩ := hd
  rw [Int.mul_ediv_cancel_left _ h0]
  have : c.natAbs ≤ (g * c).natAbs := by rw [Int.natAbs_mul]; exact Nat.le_mul_of_pos_left _ (by omega)
  exact wrap_id (by omega) (by omega)
theorem l1In_eq (a b c : Int) : spec_l1In.f a b c = some (decide (b ≤ a ∧ a ≤ c)) := by
  unfold spec_l1In.f
  by_cases h : a ≥ b
  · rw [if_pos h]; simp [show b ≤ a from h]
  · rw [if_neg h]; simp; omega
theorem within_eq (a b c : Int) : impl_within.f a b c = some (decide (b ≤ a ∧ a ≤ c)) := by
  unfold impl_within.f
  by_cases h : a ≥ b
  · rw [if_pos h]; simp [show b ≤ a from h]
  · rw [if_neg h]; simp; omega

theorem wrap_succ (i : Nat) (h : i < 1000000000) : wrap64 ((i : Int) + 1) = ((i + 1 : Nat) : Int) := by rw [wrap_id (by omega) (by omega)]; omega
theorem wrap_pred (i : Nat) (h1 : 1 ≤ i) (h : i < 1000000000) : wrap64 ((i : Int) - 1) = ((i - 1 : Nat) : Int) := by rw [wrap_id (by omega) (by omega)]; omega
theorem pow26 {a : Int} (h : 1 ≤ a) (h' : a ≤ 26) {n : Nat} (hn : n ≤ 8) : 1 ≤ a ^ n ∧ a ^ n ≤ 208827064576 := by
  have x := Mth.pow_pos' a h n
  have b := (Mth.pow_bd a 26 (by omega) h' n).2
  have c : (26 : Int) ^ n ≤ 26 ^ 8 := Mth.pow_le_M 26 (by omega) n 8 hn
  have d : (26 : Int) ^ 8 = 208827064576 := by decide
  omega
theorem woPower_l0 {a : Int} (h : 1 ≤ a) (h' : a ≤ 26) : ∀ d n : Nat, n + d ≤ 8 → Mth.Evn (fun k => spec_woPower.l0 k a d (a ^ n)) (a ^ (n + d))
  | 0, n, _ => by
    refine (Mth.Evn.now _).step fun k => ?_
    simp only [spec_woPower.l0]
    rw [if_neg (by omega)]; rfl
  | d + 1, n, hn => by
    have ih := woPower_l0 h h' d (n + 1) (by omega)
    have t := pow26 h h' (n := n + 1) (by omega)
    rw [show n + (d + 1) = n + 1 + d by omega]
    refine ih.step fun k => ?_
    simp only [spec_woPower.l0]
    have ew : wrap64 (((d + 1 : Nat) : Int) - 1) = (d : Int) := by rw [wrap_pred (d + 1) (by omega) (by omega)]; omega
    have e : a ^ n * a = a ^ (n + 1) := (Int.pow_succ a n).symm
    rw [if_pos (by omega), ew, e, wrap_id (x := a ^ (n + 1)) (by omega) (by omega)]
theorem woPower_ev {a : Int} (h : 1 ≤ a) (h' : a ≤ 26) (n : Nat) (hn : n ≤ 8) : Mth.Evn (fun k => spec_woPower.f k a n) (a ^ n) := by
  have := woPower_l0 h h' n 0 (by omega)
  rw [Nat.zero_add, Int.pow_zero] at this
  exact this
theorem power_l0 {a : Int} (h : 1 ≤ a) (h' : a ≤ 26) (m : Nat) (hm : m ≤ 8) : ∀ d n : Nat, n + d = m → Mth.Evn (fun k => impl_power.l0 k a (a ^ n) m n) (a ^ m)
  | 0, n, hn => by
    obtain rfl : n = m := by omega
    refine (Mth.Evn.now _).step fun k => ?_
    simp only [impl_power.l0]
    rw [if_neg (by omega)]
  | d + 1, n, hn => by
    have ih := power_l0 h h' m hm d (n + 1) (by omega)
    have t := pow26 h h' (n := n + 1) (by omega)
    refine ih.step fun k => ?_
    simp only [impl_power.l0]
    have e : a ^ n * a = a ^ (n + 1) := (Int.pow_succ a n).symm
    rw [if_pos (by omega), wrap_succ n (by omega), e, wrap_id (x := a ^ (n + 1)) (by omega) (by omega)]
theorem power_ev {a : Int} (h : 1 ≤ a) (h' : a ≤ 26) (n : Nat) (hn : n ≤ 8) : Mth.Evn (fun k => impl_power.f k a n) (a ^ n) := by
  have := power_l0 h h' n hn n 0 (by omega)
  rw [Int.pow_zero] at this
  exact this
theorem bytes_eq {a b : ByteArray} (h : a.data.toList = b.data.toList) : a = b := by
  apply ByteArray.ext
  apply Array.ext'
  exact h
theorem tl_iff {a b : ByteArray} : a.toList = b.toList ↔ a = b := by
  rw [Go.ByteArray.toList_eq, Go.ByteArray.toList_eq]
  exact ⟨bytes_eq, fun h => by rw [h]⟩
theorem ext_list (w : ByteArray) (i j : Nat) : (w.extract i j).data.toList = (w.data.toList.take j).drop i := by
  rw [ByteArray.data_extract]
  simp [Array.toList_extract, List.extract_eq_take_drop, List.drop_take]
theorem app_list (a b : ByteArray) : (a ++ b).data.toList = a.data.toList ++ b.data.toList := by
  rw [ByteArray.data_append]; simp
theorem size_list (w : ByteArray) : w.data.toList.length = w.size := by rw [Array.length_toList]; rfl
/-- A turn. -/
def rot (w : ByteArray) (i : Nat) : ByteArray := w.extract i w.size ++ w.extract 0 i
theorem rot_list (w : ByteArray) (i : Nat) : (rot w i).data.toList = w.data.toList.drop i ++ w.data.toList.take i := by
  unfold rot
  rw [app_list, ext_list, ext_list, List.take_of_length_le (by rw [size_list]; omega), List.drop_zero]
theorem rot_zero (w : ByteArray) : rot w 0 = w := bytes_eq (by rw [rot_list]; simp)
theorem rot_size {w : ByteArray} {i : Nat} (h : i ≤ w.size) : (w.extract i w.size).size + (w.extract 0 i).size = w.size := by
  rw [ByteArray.size_extract, ByteArray.size_extract]
  omega
theorem tri : ∀ x y : List UInt8, (Op.bytesLess x y || x == y) = !Op.bytesLess y x
  | [], [] => rfl
  | [], _ :: _ => rfl
  | _ :: _, [] => rfl
  | a :: x, b :: y => by
    have ih := tri x y
    simp only [Op.bytesLess, List.cons_beq_cons]
    by_cases h : a = b
    · subst h
      have : ¬ a < a := UInt8.lt_irrefl a
      simp only [this, decide_false, Bool.false_or, beq_self_eq_true, Bool.true_and]
      exact ih
    · have h2 : ¬ b = a := fun e => h e.symm
      have e1 : (a == b) = false := by simpa using h
      have e2 : (b == a) = false := by simpa using h2
      simp only [e1, e2, Bool.false_and, Bool.or_false]
      by_cases h3 : a < b
      · have : ¬ b < a := fun h4 => by
          have := UInt8.lt_iff_toNat_lt.1 h3
          have := UInt8.lt_iff_toNat_lt.1 h4
          omega
        simp [h3, this]
      · have : b < a := by
          apply UInt8.lt_iff_toNat_lt.2
          have h5 : ¬ a.toNat < b.toNat := fun h6 => h3 (UInt8.lt_iff_toNat_lt.2 h6)
          have h6 : a.toNat ≠ b.toNat := fun h7 => h (UInt8.toNat_inj.1 h7)
          omega
        simp [h3, this]
theorem smin_eq (x y : ByteArray) : smin x y = if Op.bytesLess y.toList x.toList = true then y else x := by
  unfold smin
  rw [tri]
  cases Op.bytesLess y.toList x.toList <;> simp
/-- The first one of the turns from a place on. -/
def fstT (w : ByteArray) : Nat → Nat → ByteArray → ByteArray
  | 0, _, best => best
  | d + 1, i, best => fstT w d (i + 1) (if Op.bytesLess (rot w i).toList best.toList = true then rot w i else best)
theorem bl_irrefl : ∀ x : List UInt8, Op.bytesLess x x = false
  | [] => rfl
  | a :: x => by
    have : ¬ a < a := UInt8.lt_irrefl a
    simp only [Op.bytesLess, bl_irrefl x]
    simp [this]
theorem first_two {w : ByteArray} (h1 : 1 ≤ w.size) (hw : w.size ≤ 8) : ∃ f : ByteArray, Mth.Evn (fun k => impl_firstTurn.f k w) f ∧ Mth.Evn (fun k => spec_woFirst.f k w) f := by
  have goI : ∀ d i : Nat, ∀ best : ByteArray, i + d = w.size → Mth.Evn (fun k => impl_firstTurn.l0 k w best (w.size : Int) i) (fstT w d i best) := by
    intro d
    induction d with
    | zero =>
      intro i best hi
      refine (Mth.Evn.now _).step fun k => ?_
      simp only [impl_firstTurn.l0]
      rw [if_neg (by omega)]; rfl
    | succ d ih =>
      intro i best hi
      have ih := ih (i + 1) (if Op.bytesLess (rot w i).toList best.toList = true then rot w i else best) (by omega)
      have hs := rot_size (w := w) (i := i) (by omega)
      have et : ((i : Nat) : Int).toNat = i := by omega
      refine ih.step fun k => ?_
      simp only [impl_firstTurn.l0, et]
      rw [if_pos (by omega), if_pos (by omega), if_pos (by omega), if_pos (by omega), wrap_succ i (by omega), smin_eq]
      rfl
  have goS : ∀ d i : Nat, ∀ best : ByteArray, i + d = w.size → Mth.Evn (fun k => spec_woFirst.l0 k w best i) (fstT w d i best) := by
    intro d
    induction d with
    | zero =>
      intro i best hi
      refine (Mth.Evn.now _).step fun k => ?_
      simp only [spec_woFirst.l0]
      rw [if_neg (by omega)]; rfl
    | succ d ih =>
      intro i best hi
      have ih := ih (i + 1) (if Op.bytesLess (rot w i).toList best.toList = true then rot w i else best) (by omega)
      have hs := rot_size (w := w) (i := i) (by omega)
      have et : ((i : Nat) : Int).toNat = i := by omega
      refine ih.step fun k => ?_
      simp only [spec_woFirst.l0, et]
      rw [if_pos (by omega), if_pos (by omega), if_pos (by omega), if_pos (by omega), wrap_succ i (by omega)]
      by_cases c : Op.bytesLess (rot w i).toList best.toList = true
      · rw [if_pos c]
        exact if_pos c
      · rw [if_neg c]
        exact if_neg c
  refine ⟨fstT w (w.size - 1) 1 w, ?_, goS (w.size - 1) 1 w (by omega)⟩
  have h0 := goI w.size 0 w (by omega)
  obtain ⟨m, hm⟩ : ∃ m, w.size = m + 1 := ⟨w.size - 1, by omega⟩
  have e : fstT w w.size 0 w = fstT w (w.size - 1) 1 w := by
    rw [hm, fstT, rot_zero, bl_irrefl]
    simp
  rw [e] at h0
  exact h0
theorem rep_comm (p : List UInt8) : ∀ m, Lib.repeatL p m ++ p = p ++ Lib.repeatL p m
  | 0 => by simp [Lib.repeatL]
  | m + 1 => by rw [Lib.repeatL, List.append_assoc, rep_comm p m]
theorem rep_len (p : List UInt8) : ∀ m, (Lib.repeatL p m).length = m * p.length
  | 0 => by simp [Lib.repeatL]
  | m + 1 => by rw [Lib.repeatL, List.length_append, rep_len p m, Nat.succ_mul]; omega
theorem rep_of_comm (p : List UInt8) : ∀ (m : Nat) (r : List UInt8), r.length = m * p.length → r ++ p = p ++ r → r = Lib.repeatL p m
  | 0, r, hl, _ => by
    have : r = [] := List.eq_nil_of_length_eq_zero (by simpa using hl)
    rw [this]; rfl
  | m + 1, r, hl, he => by
    have hge : p.length ≤ r.length := by rw [hl, Nat.succ_mul]; omega
    have h1 : r.take p.length = p := by
      have := congrArg (List.take p.length) he
      rwa [List.take_append_of_le_length hge, List.take_left'] at this
      rfl
    obtain ⟨r', hr⟩ : ∃ r', r = p ++ r' := ⟨r.drop p.length, by have e := List.take_append_drop p.length r; rw [h1] at e; exact e.symm⟩
    subst hr
    have h2 : r' ++ p = p ++ r' := by
      rw [List.append_assoc] at he
      exact List.append_cancel_left he
    have h3 : r'.length = m * p.length := by
      rw [List.length_append, Nat.succ_mul] at hl; omega
    rw [Lib.repeatL, ← rep_of_comm p m r' h3 h2]
/-- A word is what its begin gives again and again just where it is its own turn by as many letters. -/
theorem root_iff {l : List UInt8} {k c : Nat} (hk : l.length = (c + 1) * k) : Lib.repeatL (l.take k) (c + 1) = l ↔ l.drop k ++ l.take k = l := by
  have hkl : k ≤ l.length := by rw [hk, Nat.succ_mul]; omega
  have hp : (l.take k).length = k := by rw [List.length_take]; omega
  constructor
  · intro h
    have h2 : l.drop k = Lib.repeatL (l.take k) c := by
      have e := List.take_append_drop k l
      rw [Lib.repeatL] at h
      exact List.append_cancel_left (e.trans h.symm)
    rw [h2, rep_comm]
    exact h
  · intro h
    have e := List.take_append_drop k l
    have h2 : l.drop k ++ l.take k = l.take k ++ l.drop k := h.trans e.symm
    have h3 := rep_of_comm (l.take k) c (l.drop k) (by rw [List.length_drop, hp, hk, Nat.succ_mul]; omega) h2
    rw [Lib.repeatL, ← h3]
    exact e
theorem size_eq_len (w : ByteArray) : w.size = w.data.toList.length := (size_list w).symm
/-- Both sides find the root's length. -/
theorem root_two {w : ByteArray} (hw : w.size ≤ 8) : ∀ d k : Nat, 1 ≤ k → k + d = w.size → ∃ m, k ≤ m ∧ m ≤ w.size ∧ Mth.Evn (fun q => spec_woRoot.l0 q w k) (m : Int) ∧ Mth.Evn (fun q => impl_root.l0 q w k) (w.extract 0 m) := by
  intro d
  induction d with
  | zero =>
    intro k h1 hk
    have e : k = w.size := by omega
    have et : ((k : Nat) : Int).toNat = k := by omega
    have em : (w.size : Int) % (k : Int) = 0 := by rw [e]; exact Int.emod_self
    have ed : (w.size : Int) / (k : Int) = 1 := by rw [e]; exact Int.ediv_self (by omega)
    have hs := rot_size (w := w) (i := k) (by omega)
    have er : rot w k = w := bytes_eq (by rw [rot_list, List.drop_of_length_le (by rw [size_list]; omega), List.take_of_length_le (by rw [size_list]; omega)]; simp)
    have ex : w.extract 0 k = w := bytes_eq (by rw [ext_list, List.take_of_length_le (by rw [size_list]; omega)]; simp)
    have w1 : wrap64 1 = 1 := wrap_id (by omega) (by omega)
    have ep : strings_Repeat.f (w.extract 0 k) 1 = some w := by
      unfold strings_Repeat.f
      rw [ex, if_pos ⟨by omega, by omega, by omega⟩]
      have : (⟨(Lib.repeatL w.data.toList (1 : Int).toNat).toArray⟩ : ByteArray) = w := bytes_eq (by show (Lib.repeatL w.data.toList 1) = _; simp [Lib.repeatL])
      rw [this]
    refine ⟨k, Nat.le_refl _, by omega, ?_, ?_⟩
    · refine (Mth.Evn.now _).step fun q => ?_
      simp only [spec_woRoot.l0, et]
      rw [if_neg (by omega), if_pos em, if_pos (by omega), if_pos (by omega), if_pos (by omega)]
      exact if_pos (by rw [show (w.extract k w.size ++ w.extract 0 k) = rot w k from rfl, er])
    · refine (Mth.Evn.now _).step fun q => ?_
      simp only [impl_root.l0, et]
      rw [if_neg (by omega), if_pos em, if_pos (by omega), if_pos (by omega), ed, w1, ep]
      simp only [Option.bind_some, if_true]
  | succ d ih =>
    intro k h1 hk
    obtain ⟨m, g1, g2, g3, g4⟩ := ih (k + 1) (by omega) (by omega)
    have et : ((k : Nat) : Int).toNat = k := by omega
    by_cases c : w.size % k = 0
    · have em : (w.size : Int) % (k : Int) = 0 := by omega
      have hmul : w.size = w.size / k * k := by have := Nat.div_add_mod w.size k; rw [c, Nat.add_zero, Nat.mul_comm] at this; exact this.symm
      obtain ⟨q0, hq⟩ : ∃ q0, w.size / k = q0 + 1 := ⟨w.size / k - 1, by
        have : w.size / k ≠ 0 := fun h0 => by rw [h0] at hmul; omega
        generalize w.size / k = z at this
        omega⟩
      have hqle : w.size / k ≤ w.size := Nat.div_le_self _ _
      have edv : (w.size : Int) / (k : Int) = ((w.size / k : Nat) : Int) := rfl
      have w1 : wrap64 ((w.size / k : Nat) : Int) = ((w.size / k : Nat) : Int) := by
        generalize w.size / k = z at hqle
        exact wrap_id (by omega) (by omega)
      have w2 : (0 : Int) ≤ ((w.size / k : Nat) : Int) := Int.natCast_nonneg _
      have w3 : (((w.size / k : Nat) : Int)).toNat = w.size / k := rfl
      have hs := rot_size (w := w) (i := k) (by omega)
      have hx : (w.extract 0 k).size ≤ 8 := by rw [ByteArray.size_extract]; omega
      have xl : (w.extract 0 k).data.toList = w.data.toList.take k := by rw [ext_list]; simp
      have ep : strings_Repeat.f (w.extract 0 k) ((w.size / k : Nat) : Int) = some ⟨(Lib.repeatL (w.data.toList.take k) (w.size / k)).toArray⟩ := by
        unfold strings_Repeat.f
        have w4 : (w.extract 0 k).size * (((w.size / k : Nat) : Int)).toNat ≤ 100 := by
          rw [w3]
          exact Nat.le_trans (Nat.mul_le_mul hx (Nat.le_trans hqle hw)) (by omega)
        rw [if_pos ⟨w2, by omega, by omega⟩, xl, w3]
      have key := root_iff (l := w.data.toList) (k := k) (c := q0) (by rw [size_list, ← hq]; exact hmul)
      rw [← hq] at key
      have e1 : ((⟨(Lib.repeatL (w.data.toList.take k) (w.size / k)).toArray⟩ : ByteArray).toList = w.toList) ↔ Lib.repeatL (w.data.toList.take k) (w.size / k) = w.data.toList := by
        rw [tl_iff]
        constructor
        · intro h; exact congrArg (fun b : ByteArray => b.data.toList) h
        · intro h; exact bytes_eq h
      have e2 : ((w.extract k w.size ++ w.extract 0 k).toList = w.toList) ↔ w.data.toList.drop k ++ w.data.toList.take k = w.data.toList := by
        rw [tl_iff, ← rot_list]
        exact ⟨fun h => congrArg (fun b : ByteArray => b.data.toList) h, fun h => bytes_eq h⟩
      by_cases cr : w.data.toList.drop k ++ w.data.toList.take k = w.data.toList
      · refine ⟨k, Nat.le_refl _, by omega, ?_, ?_⟩
        · refine (Mth.Evn.now _).step fun q => ?_
          simp only [spec_woRoot.l0, et]
          rw [if_neg (by omega), if_pos em, if_pos (by omega), if_pos (by omega), if_pos (by omega), if_pos (e2.2 cr)]
        · refine (Mth.Evn.now _).step fun q => ?_
          simp only [impl_root.l0, et]
          rw [if_neg (by omega), if_pos em, if_pos (by omega), if_pos (by omega), edv, w1, ep]
          simp only [Option.bind_some]
          rw [if_pos (e1.2 (key.2 cr))]
      · refine ⟨m, by omega, g2, ?_, ?_⟩
        · refine g3.step fun q => ?_
          simp only [spec_woRoot.l0, et]
          rw [if_neg (by omega), if_pos em, if_pos (by omega), if_pos (by omega), if_pos (by omega), if_neg (fun h => cr (e2.1 h)), wrap_succ k (by omega)]
        · refine g4.step fun q => ?_
          simp only [impl_root.l0, et]
          rw [if_neg (by omega), if_pos em, if_pos (by omega), if_pos (by omega), edv, w1, ep]
          simp only [Option.bind_some]
          rw [if_neg (fun h => cr (key.1 (e1.1 h))), wrap_succ k (by omega)]
    · have em : ¬ (w.size : Int) % (k : Int) = 0 := by omega
      refine ⟨m, by omega, g2, ?_, ?_⟩
      · refine g3.step fun q => ?_
        simp only [spec_woRoot.l0]
        rw [if_neg (by omega), if_neg em, wrap_succ k (by omega)]
      · refine g4.step fun q => ?_
        simp only [impl_root.l0]
        rw [if_neg (by omega), if_neg em, wrap_succ k (by omega)]
theorem prime_two {w : ByteArray} (h1 : 1 ≤ w.size) (hw : w.size ≤ 8) : ∃ b : Bool, Mth.Evn (fun k => spec_woPrime.f k w) b ∧ Mth.Evn (fun k => impl_isPrime.f k w) b := by
  obtain ⟨f, f1, f2⟩ := first_two h1 hw
  obtain ⟨m, m1, m2, r1, r2⟩ := root_two hw (w.size - 1) 1 (by omega) (by omega)
  have r1' : Mth.Evn (fun k => spec_woRoot.f k w) (m : Int) := r1
  have r2' : Mth.Evn (fun k => impl_root.f k w) (w.extract 0 m) := r2
  have em : ((w.extract 0 m).toList == w.toList) = decide (m = w.size) := by
    rw [Bool.eq_iff_iff]
    simp only [beq_iff_eq, decide_eq_true_eq]
    rw [tl_iff]
    constructor
    · intro h
      have := congrArg ByteArray.size h
      rw [ByteArray.size_extract] at this
      omega
    · intro h
      subst h
      exact bytes_eq (by rw [ext_list, List.take_of_length_le (by rw [size_list]; omega)]; simp)
  refine ⟨decide (m = w.size) && (f.toList == w.toList), ?_, ?_⟩
  · unfold spec_woPrime.f
    refine r1'.bind ?_
    by_cases c : m = w.size
    · refine Mth.Evn.congr (fun k => if_pos (by omega)) ?_
      refine f2.bind ?_
      rw [decide_eq_true c, Bool.true_and]
      exact Mth.Evn.now _
    · refine Mth.Evn.congr (fun k => if_neg (by omega)) ?_
      rw [decide_eq_false c, Bool.false_and]
      exact Mth.Evn.now _
  · unfold impl_isPrime.f
    refine f1.bind ?_
    by_cases c : f.toList = w.toList
    · refine Mth.Evn.congr (fun k => if_pos c) ?_
      refine r2'.bind ?_
      rw [em, c, beq_self_eq_true, Bool.and_true]
      exact Mth.Evn.now _
    · refine Mth.Evn.congr (fun k => if_neg c) ?_
      have : (f.toList == w.toList) = false := by simpa using c
      rw [this, Bool.and_false]
      exact Mth.Evn.now _
/-- The word with a rank. -/
def wl (a : Nat) : Nat → Nat → List UInt8
  | 0, _ => []
  | n + 1, r => wl a n (r / a) ++ [UInt8.ofNat (97 + r % a)]
theorem wl_len (a : Nat) : ∀ n r, (wl a n r).length = n
  | 0, _ => rfl
  | n + 1, r => by rw [wl, List.length_append, wl_len a n]; rfl
def wd (a n r : Nat) : ByteArray := ⟨(wl a n r).toArray⟩
theorem wd_size (a n r : Nat) : (wd a n r).size = n := by
  rw [size_eq_len]; exact wl_len a n r
theorem letter_ex : ∀ c : Fin 26, (⟨#[97, 98, 99, 100, 101, 102, 103, 104, 105, 106, 107, 108, 109, 110, 111, 112, 113, 114, 115, 116, 117, 118, 119, 120, 121, 122]⟩ : ByteArray).extract c.val (c.val + 1) = ⟨#[UInt8.ofNat (97 + c.val)]⟩ := by decide
theorem letter_bt : ∀ c : Fin 26, bt (⟨#[97, 98, 99, 100, 101, 102, 103, 104, 105, 106, 107, 108, 109, 110, 111, 112, 113, 114, 115, 116, 117, 118, 119, 120, 121, 122]⟩ : ByteArray) ((c.val : Nat) : Int) = ((97 + c.val : Nat) : Int) := by decide
theorem tdivmod {a r : Nat} : Int.tmod (r : Int) (a : Int) = ((r % a : Nat) : Int) ∧ Int.tdiv (r : Int) (a : Int) = ((r / a : Nat) : Int) := by
  rw [Int.tmod_eq_emod_of_nonneg (by omega), Int.tdiv_eq_ediv_of_nonneg (by omega)]
  exact ⟨rfl, rfl⟩
theorem woOf_l0 {a : Nat} (h : 1 ≤ a) (h' : a ≤ 26) : ∀ (d r : Nat) (acc : ByteArray), r ≤ 1000000000000 → acc.size + d ≤ 100 → Mth.Evn (fun k => spec_woOf.l0 k a d r acc) (wd a d r ++ acc)
  | 0, r, acc, hr, hd => by
    refine (Mth.Evn.now _).step fun k => ?_
    simp only [spec_woOf.l0]
    rw [if_neg (by omega)]
    exact congrArg some (bytes_eq (by rw [app_list]; rfl))
  | d + 1, r, acc, hr, hd => by
    have hlt : r % a < a := Nat.mod_lt _ (by omega)
    have hdv : r / a ≤ r := Nat.div_le_self _ _
    have ex := letter_ex ⟨r % a, by omega⟩
    dsimp only at ex
    have z1 : (⟨#[UInt8.ofNat (97 + r % a)]⟩ : ByteArray).size = 1 := rfl
    have ih := woOf_l0 h h' d (r / a) ((⟨#[UInt8.ofNat (97 + r % a)]⟩ : ByteArray) ++ acc) (by omega) (by rw [ByteArray.size_append, z1]; omega)
    have e : wd a d (r / a) ++ ((⟨#[UInt8.ofNat (97 + r % a)]⟩ : ByteArray) ++ acc) = wd a (d + 1) r ++ acc := bytes_eq (by
      rw [app_list, app_list, app_list]
      show wl a d (r / a) ++ ([UInt8.ofNat (97 + r % a)] ++ acc.data.toList) = (wl a d (r / a) ++ [UInt8.ofNat (97 + r % a)]) ++ acc.data.toList
      rw [List.append_assoc])
    rw [e] at ih
    have t := @tdivmod a r
    refine ih.step fun k => ?_
    simp only [spec_woOf.l0, t.1, t.2]
    have e1 : wrap64 (((r % a : Nat) : Int) + 1) = ((r % a + 1 : Nat) : Int) := wrap_succ _ (by omega)
    have e2 : wrap64 (((d + 1 : Nat) : Int) - 1) = (d : Int) := by rw [wrap_pred (d + 1) (by omega) (by omega)]; omega
    have e3 : wrap64 ((r / a : Nat) : Int) = ((r / a : Nat) : Int) := by
      generalize r / a = z at hdv
      exact wrap_id (by omega) (by omega)
    have e4 : (((r % a : Nat) : Int)).toNat = r % a := by omega
    have e5 : (((r % a + 1 : Nat) : Int)).toNat = r % a + 1 := by omega
    rw [e1, e4, e5, ex, z1, e2, e3]
    rw [if_pos (by omega), if_neg (by omega), if_pos (by omega), if_pos (by omega), if_pos (by omega), if_pos (by omega)]
theorem set_rep (d : Nat) (v : Int) (l : List Int) : (List.replicate (d + 1) (0 : Int) ++ l).set d v = List.replicate d 0 ++ (v :: l) := by
  rw [List.replicate_succ', List.append_assoc, List.set_append_right _ _ (by simp)]
  simp
theorem wordAt_l0 {a : Nat} (h : 1 ≤ a) (h' : a ≤ 26) : ∀ (d r : Nat) (l : List UInt8), r ≤ 1000000000000 → d ≤ 100 → Mth.Evn (fun k => impl_wordAt.l0 k a r (List.replicate d 0 ++ l.map fun c => (c.toNat : Int)) ((d : Int) - 1)) (⟨(wl a d r ++ l).toArray⟩ : ByteArray)
  | 0, r, l, hr, hd => by
    refine (Mth.Evn.now _).step fun k => ?_
    simp only [impl_wordAt.l0]
    rw [if_neg (by omega)]
    unfold strOfNums
    have : (fun c : UInt8 => UInt8.ofNat ((c.toNat : Int)).toNat) = id := by funext c; simp
    simp only [List.replicate_zero, List.nil_append, List.map_map, Function.comp_def, this, List.map_id, wl]
  | d + 1, r, l, hr, hd => by
    have hlt : r % a < a := Nat.mod_lt _ (by omega)
    have hdv : r / a ≤ r := Nat.div_le_self _ _
    have ih := wordAt_l0 h h' d (r / a) (UInt8.ofNat (97 + r % a) :: l) (by omega) (by omega)
    have eb := letter_bt ⟨r % a, by omega⟩
    dsimp only at eb
    have t := @tdivmod a r
    have el : (List.replicate (d + 1) (0 : Int) ++ l.map fun c => (c.toNat : Int)).length = d + 1 + l.length := by simp
    have en : (UInt8.ofNat (97 + r % a)).toNat = 97 + r % a := by
      rw [UInt8.toNat_ofNat']; omega
    have er : wl a d (r / a) ++ (UInt8.ofNat (97 + r % a) :: l) = wl a (d + 1) r ++ l := by rw [wl, List.append_assoc]; rfl
    rw [er] at ih
    simp only [List.map_cons, en] at ih
    have e0 : ((d + 1 : Nat) : Int) - 1 = (d : Int) := by omega
    rw [e0]
    refine ih.step fun k => ?_
    simp only [impl_wordAt.l0, t.1, t.2]
    have e2 : wrap64 ((d : Int) - 1) = (d : Int) - 1 := wrap_id (by omega) (by omega)
    have e3 : wrap64 ((r / a : Nat) : Int) = ((r / a : Nat) : Int) := by
      generalize r / a = z at hdv
      exact wrap_id (by omega) (by omega)
    have e4 : ((d : Nat) : Int).toNat = d := by omega
    rw [el, eb, e2, e3, e4, set_rep]
    rw [if_pos (by omega), if_neg (by omega), if_pos (by omega), if_pos (by omega), if_pos (by omega), if_pos (by omega)]
theorem words_two {a n r : Nat} (h : 1 ≤ a) (h' : a ≤ 26) (hn : n ≤ 8) (hr : r ≤ 1000000) : Mth.Evn (fun k => spec_woOf.f k a n r) (wd a n r) ∧ Mth.Evn (fun k => impl_wordAt.f k a n r) (wd a n r) := by
  constructor
  · have := woOf_l0 h h' n r (⟨#[]⟩ : ByteArray) (by omega) (by show 0 + n ≤ 100; omega)
    have e : wd a n r ++ (⟨#[]⟩ : ByteArray) = wd a n r := bytes_eq (by rw [app_list]; simp)
    rw [e] at this
    exact this
  · have := wordAt_l0 h h' n r [] (by omega) (by omega)
    simp only [List.map_nil, List.append_nil] at this
    have e2 : wrap64 ((n : Int) - 1) = (n : Int) - 1 := wrap_id (by omega) (by omega)
    refine Mth.Evn.congr (fun k => ?_) this
    unfold impl_wordAt.f
    rw [if_pos (by omega), if_pos (by omega), e2, show ((n : Nat) : Int).toNat = n by omega]
theorem powers_two {a n : Nat} (h : 1 ≤ a) (ha : a ≤ 26) (hn : n ≤ 8) : Mth.Evn (fun k => spec_woPower.f k a n) ((a ^ n : Nat) : Int) ∧ Mth.Evn (fun k => impl_power.f k a n) ((a ^ n : Nat) : Int) := by
  have h1 := woPower_ev (a := (a : Int)) (by omega) (by omega) n hn
  have h2 := power_ev (a := (a : Int)) (by omega) (by omega) n hn
  rw [← Int.natCast_pow] at h1 h2
  exact ⟨h1, h2⟩
/-- The prime words below a rank: both sides list the same ones. -/
theorem primes_two {a n : Nat} (h : 1 ≤ a) (h' : a ≤ 26) (h1 : 1 ≤ n) (hn : n ≤ 8) (hN : a ^ n ≤ 300) : ∃ L : List ByteArray, L.length ≤ 300 ∧ (∀ w, w ∈ L → w.size = n) ∧ Mth.Evn (fun k => spec_woPrimes.f k a n) L ∧ Mth.Evn (fun k => impl_primes.f k a n) L := by
  obtain ⟨pS, pI⟩ := powers_two h h' hn
  generalize a ^ n = N at *
  have go : ∀ (d i : Nat) (acc : List ByteArray), i + d = N → acc.length ≤ i → (∀ w, w ∈ acc → w.size = n) → ∃ L : List ByteArray, L.length ≤ 300 ∧ (∀ w, w ∈ L → w.size = n) ∧ Mth.Evn (fun k => spec_woPrimes.l0 k a n acc i) L ∧ Mth.Evn (fun k => impl_primes.l0 k a n acc (N : Int) i) L := by
    intro d
    induction d with
    | zero =>
      intro i acc hi hl hw
      refine ⟨acc, by omega, hw, ?_, ?_⟩
      · refine Mth.Evn.step (fun k => by simp only [spec_woPrimes.l0]; rfl) ?_
        refine pS.bind ?_
        exact Mth.Evn.congr (fun k => if_neg (by omega)) (Mth.Evn.now _)
      · refine (Mth.Evn.now _).step fun k => ?_
        simp only [impl_primes.l0]
        rw [if_neg (by omega)]
    | succ d ih =>
      intro i acc hi hl hw
      obtain ⟨w1, w2⟩ := words_two (a := a) (n := n) (r := i) h h' hn (by omega)
      have hz := wd_size a n i
      obtain ⟨b, b1, b2⟩ := prime_two (w := wd a n i) (by omega) (by omega)
      have u1 : (i : Int) < (N : Int) := by omega
      have hlt : acc.length < 8796093022208 := by omega
      obtain ⟨L, l1, lw, l2, l3⟩ := ih (i + 1) (if b = true then acc ++ [wd a n i] else acc) (by omega) (by split <;> (first | (simp; omega) | omega)) (fun w hm => by
        split at hm
        · rcases List.mem_append.1 hm with hm | hm
          · exact hw w hm
          · simp only [List.mem_cons, List.not_mem_nil, or_false] at hm
            rw [hm]; exact hz
        · exact hw w hm)
      refine ⟨L, l1, lw, ?_, ?_⟩
      · refine Mth.Evn.step (fun k => by simp only [spec_woPrimes.l0]; rfl) ?_
        refine pS.bind ?_
        refine Mth.Evn.congr (fun k => if_pos u1) ?_
        refine w1.bind ?_
        refine b1.bind ?_
        refine Mth.Evn.congr (fun k => ?_) l2
        rw [wrap_succ i (by omega)]
        cases b with
        | true => rw [if_pos rfl, if_pos hlt, if_pos rfl]
        | false => rw [if_neg (by simp), if_neg (by simp)]
      · refine Mth.Evn.step (fun k => by simp only [impl_primes.l0]; rw [if_pos u1]) ?_
        refine w2.bind ?_
        refine b2.bind ?_
        refine Mth.Evn.congr (fun k => ?_) l3
        rw [wrap_succ i (by omega)]
        cases b with
        | true => rw [if_pos rfl, if_pos hlt, if_pos rfl]
        | false => rw [if_neg (by simp), if_neg (by simp)]
  obtain ⟨L, l1, lw, l2, l3⟩ := go N 0 [] (by omega) (by simp) (by simp)
  refine ⟨L, l1, lw, l2, ?_⟩
  unfold impl_primes.f
  exact pI.bind l3
theorem bl_eq : ∀ (x y : List UInt8), Op.bytesLess x y = decide (x < y)
  | [], [] => by simp [Op.bytesLess]
  | _ :: _, [] => by simp [Op.bytesLess]
  | [], _ :: _ => by simp [Op.bytesLess]
  | a :: x, b :: y => by
    rw [Op.bytesLess, bl_eq x y]
    simp only [List.cons_lt_cons_iff]
    by_cases h1 : a < b <;> by_cases h2 : a = b <;> by_cases h3 : x < y <;> simp [h1, h2, h3]
/-- The order of the words: not above. -/
def le8 (x y : List UInt8) : Prop := x ≤ y
theorem le8_iff (x y : List UInt8) : le8 x y ↔ Op.bytesLess y x = false := by
  rw [bl_eq, decide_eq_false_iff_not]; exact Iff.rfl
theorem le8_trans {x y z : List UInt8} (h : le8 x y) (h' : le8 y z) : le8 x z := List.le_trans h h'
theorem le8_antisymm {x y : List UInt8} (h : le8 x y) (h' : le8 y x) : x = y := List.le_antisymm h h'
theorem le8_total (x y : List UInt8) : le8 x y ∨ le8 y x := List.le_total x y
def srt (l : List ByteArray) : Prop := (l.map fun b => b.data.toList).Pairwise le8
theorem le8_of_lt {x y : List UInt8} (h : Op.bytesLess x y = true) : le8 x y := by
  rcases le8_total x y with h1 | h1
  · exact h1
  · rw [le8_iff, h] at h1; cases h1
theorem dtl (b : ByteArray) : b.toList = b.data.toList := Go.ByteArray.toList_eq b
theorem srt_ins {X : List ByteArray} {w : ByteArray} {n : Nat} (hn : n ≤ X.length) (hs : srt X) (hlo : ∀ b, b ∈ X.take n → le8 b.data.toList w.data.toList) (hhi : ∀ b, b ∈ X.drop n → le8 w.data.toList b.data.toList) : srt (X.take n ++ [w] ++ X.drop n) := by
  unfold srt at *
  simp only [List.map_append, List.map_cons, List.map_nil]
  rw [← List.take_append_drop n X, List.map_append, List.pairwise_append] at hs
  obtain ⟨h1, h2, h3⟩ := hs
  rw [List.pairwise_append, List.pairwise_append]
  refine ⟨⟨h1, by simp, ?_⟩, h2, ?_⟩
  · intro a ha b hb
    obtain ⟨a', ha', rfl⟩ := List.mem_map.1 ha
    simp only [List.mem_cons, List.not_mem_nil, or_false] at hb
    subst hb
    exact hlo a' ha'
  · intro a ha b hb
    obtain ⟨b', hb', rfl⟩ := List.mem_map.1 hb
    rcases List.mem_append.1 ha with ha | ha
    · exact h3 a ha _ (List.mem_map_of_mem hb')
    · simp only [List.mem_cons, List.not_mem_nil, or_false] at ha
      subst ha
      exact hhi b' hb'
theorem srt_below {X : List ByteArray} {w : ByteArray} {m : Nat} (hm : m < X.length) (hs : srt X) (h : le8 (X[m]).data.toList w.data.toList) : ∀ b, b ∈ X.take (m + 1) → le8 b.data.toList w.data.toList := by
  intro b hb
  rw [List.take_succ_eq_append_getElem hm] at hb
  rcases List.mem_append.1 hb with hb | hb
  · have e : X = X.take m ++ X.drop m := (List.take_append_drop m X).symm
    unfold srt at hs
    rw [e, List.map_append, List.pairwise_append] at hs
    have hd : X[m] ∈ X.drop m := by rw [List.drop_eq_getElem_cons hm]; exact List.mem_cons_self
    exact le8_trans (hs.2.2 _ (List.mem_map_of_mem hb) _ (List.mem_map_of_mem hd)) h
  · simp only [List.mem_cons, List.not_mem_nil, or_false] at hb
    subst hb; exact h
theorem ins_perm (X : List ByteArray) (w : ByteArray) (n : Nat) : (X.take n ++ [w] ++ X.drop n).Perm (X ++ [w]) := by
  have e : X ++ [w] = X.take n ++ (X.drop n ++ [w]) := by rw [← List.append_assoc, List.take_append_drop]
  rw [e, List.append_assoc]
  exact List.Perm.append_left _ List.perm_append_comm
/-- A word is put at its place. -/
theorem ins_ev {a n k x31 x32 : Int} {W : List ByteArray} {w : ByteArray} {X : List ByteArray} (hX : X.length ≤ 100000) (hs : srt X) : ∀ m : Nat, m ≤ X.length → (∀ b, b ∈ X.drop m → le8 w.data.toList b.data.toList) →
    ∃ X' : List ByteArray, srt X' ∧ X'.Perm (X ++ [w]) ∧ ∀ r, Mth.Evn (fun q => spec_RingWithAll.l1 q a n X' k W x31 (wrap64 (x32 + 1))) r → Mth.Evn (fun q => spec_RingWithAll.l2 q a n X k w m W x31 x32) r := by
  have fin : ∀ (F : List ByteArray → Option (ByteArray × Bool)) (m : Nat), m ≤ X.length → (if 0 ≤ (m : Int) then (if (m : Int) ≤ (X.length : Int) then ((spec_l1OwnS.f (X.take (m : Int).toNat)).bind fun t130 => (if t130.length < 8796093022208 then ((some (t130 ++ [w] : List ByteArray)).bind fun y133 => ((some (X.drop (m : Int).toNat : List ByteArray)).bind fun y136 => (if y133.length + y136.length < 8796093022208 then F (y133 ++ y136) else (none)))) else (none))) else none) else none) = F (X.take m ++ [w] ++ X.drop m) := by
    intro F m hm
    have e : ((m : Nat) : Int).toNat = m := by omega
    have el : (X.take m).length = m := by rw [List.length_take]; omega
    have ed : (X.drop m).length = X.length - m := List.length_drop
    simp only [spec_l1OwnS.f, e, Option.bind_some, List.nil_append, List.length_nil, List.length_append, List.length_singleton, el, ed]
    rw [if_pos (by omega), if_pos (by omega), if_pos (by omega)]
    simp only [Option.bind_some]
    rw [el, if_pos (by omega), if_pos (by omega)]
  have stop : ∀ m : Nat, m ≤ X.length → (∀ b, b ∈ X.drop m → le8 w.data.toList b.data.toList) → (m = 0 ∨ ∃ h : m - 1 < X.length, Op.bytesLess w.toList (X[m - 1]).toList = false) → srt (X.take m ++ [w] ++ X.drop m) := by
    intro m hm hhi hlo
    refine srt_ins hm hs ?_ hhi
    rcases hlo with rfl | ⟨h, hl⟩
    · intro b hb; simp at hb
    · rcases Nat.eq_zero_or_pos m with rfl | hp
      · intro b hb; simp at hb
      · have := srt_below (w := w) h hs (by rw [le8_iff, ← dtl, ← dtl]; exact hl)
        rwa [show m - 1 + 1 = m by omega] at this
  intro m
  induction m with
  | zero =>
    intro hm hhi
    refine ⟨_, stop 0 hm hhi (.inl rfl), ins_perm X w 0, fun r hr => hr.step fun q => ?_⟩
    simp only [spec_RingWithAll.l2]
    rw [if_neg (by omega)]
    exact fin (fun Y => spec_RingWithAll.l1 q a n Y k W x31 (wrap64 (x32 + 1))) 0 hm
  | succ m ih =>
    intro hm hhi
    have e1 : wrap64 (((m + 1 : Nat) : Int) - 1) = (m : Int) := by rw [wrap_pred (m + 1) (by omega) (by omega)]; omega
    have er : rdOf ByteArray.empty X (m : Int) = X[m] := by unfold rdOf; rw [List.getD_eq_getElem?_getD, Int.toNat_natCast, List.getElem?_eq_getElem (by omega)]; rfl
    by_cases c : Op.bytesLess w.toList (X[m]).toList = true
    · obtain ⟨X', x1, x2, x3⟩ := ih (by omega) (fun b hb => by
        rw [List.drop_eq_getElem_cons (by omega)] at hb
        rcases List.mem_cons.1 hb with rfl | hb
        · exact le8_of_lt (by rw [← dtl, ← dtl]; exact c)
        · exact hhi b hb)
      refine ⟨X', x1, x2, fun r hr => (x3 r hr).step fun q => ?_⟩
      simp only [spec_RingWithAll.l2, e1, er]
      rw [if_pos (by omega), if_pos (by omega), if_pos (by omega), if_pos c]
    · refine ⟨_, stop (m + 1) hm hhi (.inr ⟨by omega, by simpa using c⟩), ins_perm X w (m + 1), fun r hr => hr.step fun q => ?_⟩
      simp only [spec_RingWithAll.l2, e1, er]
      rw [if_pos (by omega), if_pos (by omega), if_pos (by omega), if_neg c]
      exact fin (fun Y => spec_RingWithAll.l1 q a n Y k W x31 (wrap64 (x32 + 1))) (m + 1) hm
/-- All words of a row are put at their places. -/
theorem all_ev {a n k : Int} {W : List ByteArray} (hW : W.length ≤ 10000) : ∀ (d i : Nat) (X : List ByteArray), i + d = W.length → X.length + d ≤ 90000 → srt X →
    ∃ X' : List ByteArray, srt X' ∧ X'.Perm (X ++ W.drop i) ∧ ∀ r, Mth.Evn (fun q => spec_RingWithAll.l0 q a n X' (wrap64 (k + 1))) r → Mth.Evn (fun q => spec_RingWithAll.l1 q a n X k W (W.length : Int) i) r := by
  intro d
  induction d with
  | zero =>
    intro i X hi hX hs
    refine ⟨X, hs, by rw [List.drop_of_length_le (by omega), List.append_nil], fun r hr => hr.step fun q => ?_⟩
    simp only [spec_RingWithAll.l1]
    rw [if_neg (by omega)]
  | succ d ih =>
    intro i X hi hX hs
    have hlt : i < W.length := by omega
    have er : rdOf ByteArray.empty W (i : Int) = W[i] := by unfold rdOf; rw [List.getD_eq_getElem?_getD, Int.toNat_natCast, List.getElem?_eq_getElem hlt]; rfl
    obtain ⟨Y, y1, y2, y3⟩ := ins_ev (a := a) (n := n) (k := k) (x31 := (W.length : Int)) (x32 := (i : Int)) (W := W) (w := W[i]) (X := X) (by omega) hs X.length (Nat.le_refl _) (fun b hb => by rw [List.drop_length] at hb; cases hb)
    have yl : Y.length = X.length + 1 := by rw [y2.length_eq]; simp
    obtain ⟨Z, z1, z2, z3⟩ := ih (i + 1) Y (by omega) (by omega) y1
    refine ⟨Z, z1, ?_, fun r hr => ?_⟩
    · refine z2.trans ?_
      rw [List.drop_eq_getElem_cons hlt]
      have := List.Perm.append_right (W.drop (i + 1)) y2
      rw [List.append_assoc] at this
      exact this
    · have h1 := z3 r hr
      rw [← wrap_succ i (by omega)] at h1
      refine (y3 r h1).step fun q => ?_
      simp only [spec_RingWithAll.l1, er]
      rw [if_pos (by omega), if_pos (by omega), if_pos (by omega)]
/-- The words end to end. -/
def cat (l : List ByteArray) : List UInt8 := (l.map fun b => b.data.toList).flatten
theorem cat_ev {X : List ByteArray} (hX : X.length ≤ 100000) : ∀ (d i : Nat) (acc : ByteArray), i + d = X.length → acc.size + (cat (X.drop i)).length ≤ 1000000000 → Mth.Evn (fun q => spec_RingWithAll.l3 q acc X (X.length : Int) i) (⟨(acc.data.toList ++ cat (X.drop i)).toArray⟩, true) := by
  intro d
  induction d with
  | zero =>
    intro i acc hi hs
    refine (Mth.Evn.now _).step fun q => ?_
    simp only [spec_RingWithAll.l3]
    rw [if_neg (by omega), List.drop_of_length_le (by omega)]
    simp [cat]
  | succ d ih =>
    intro i acc hi hs
    have hlt : i < X.length := by omega
    have er : rdOf ByteArray.empty X (i : Int) = X[i] := by unfold rdOf; rw [List.getD_eq_getElem?_getD, Int.toNat_natCast, List.getElem?_eq_getElem hlt]; rfl
    have ec : cat (X.drop i) = (X[i]).data.toList ++ cat (X.drop (i + 1)) := by rw [List.drop_eq_getElem_cons hlt]; unfold cat; rw [List.map_cons, List.flatten_cons]
    rw [ec, List.length_append, size_list] at hs
    have := ih (i + 1) (acc ++ X[i]) (by omega) (by rw [ByteArray.size_append]; omega)
    rw [app_list, List.append_assoc, ← ec] at this
    refine this.step fun q => ?_
    simp only [spec_RingWithAll.l3, er]
    rw [if_pos (by omega), if_pos (by omega), if_pos (by omega), if_pos (by omega), wrap_succ i (by omega)]
theorem join_nil : ∀ l : List (List UInt8), Lib.join l [] = l.flatten
  | [] => by simp [Lib.join, List.intercalate]
  | [a] => by simp [Lib.join, List.intercalate]
  | a :: b :: l => by
    have ih := join_nil (b :: l)
    unfold Lib.join List.intercalate at *
    rw [List.intersperse_cons_cons, List.flatten_cons, List.flatten_cons, List.nil_append, ih]
    simp
theorem cat_len : ∀ l : List ByteArray, (∀ b, b ∈ l → b.size ≤ 8) → (cat l).length ≤ 8 * l.length
  | [], _ => by simp [cat]
  | b :: l, h => by
    have ih := cat_len l (fun x hx => h x (List.mem_cons_of_mem _ hx))
    have hb := h b List.mem_cons_self
    have e : cat (b :: l) = b.data.toList ++ cat l := by unfold cat; rw [List.map_cons, List.flatten_cons]
    rw [e, List.length_append, size_list, List.length_cons]; omega
theorem sort_is {X Y : List ByteArray} (hs : srt X) (hp : X.Perm Y) : (Y.map fun b => b.data.toList).mergeSort (fun x y => decide (x ≤ y)) = X.map fun b => b.data.toList := by
  refine List.Perm.eq_of_pairwise (le := le8) (fun a b _ _ h1 h2 => le8_antisymm h1 h2) ?_ hs ((List.mergeSort_perm _ _).trans (hp.symm.map _))
  have := List.pairwise_mergeSort (le := fun x y : List UInt8 => decide (x ≤ y)) (fun a b c h1 h2 => by
    simp only [decide_eq_true_eq] at *; exact le8_trans h1 h2) (fun a b => by
    rcases le8_total a b with h | h
    · have : a ≤ b := h
      simp [this]
    · have : b ≤ a := h
      simp [this]) (Y.map fun b => b.data.toList)
  refine this.imp ?_
  intro a b h
  have h2 : a ≤ b := of_decide_eq_true h
  exact h2
theorem ring_two {a n : Nat} (h : 1 ≤ a) (h' : a ≤ 26) (h1 : 1 ≤ n) (hn : n ≤ 8) (hN : a ^ n ≤ 300) : ∀ (d k : Nat) (X Y : List ByteArray), k + d = n + 1 → 1 ≤ k → srt X → X.Perm Y → Y.length ≤ 300 * k → (∀ w, w ∈ Y → w.size ≤ 8) →
    ∃ r : ByteArray, Mth.Evn (fun q => spec_RingWithAll.l0 q a n X k) (r, true) ∧ Mth.Evn (fun q => impl_RingWithAll.l0 q a n Y k) (r, true) := by
  intro d
  induction d with
  | zero =>
    intro k X Y hk hk1 hs hp hY hw
    have hXw : ∀ w, w ∈ X → w.size ≤ 8 := fun w hm => hw w (hp.subset hm)
    have hXl : X.length = Y.length := hp.length_eq
    have hc := cat_len X hXw
    have z0 : (⟨#[]⟩ : ByteArray).size = 0 := rfl
    have cv := cat_ev (X := X) (by omega) X.length 0 (⟨#[]⟩ : ByteArray) (by omega) (by rw [List.drop_zero, z0]; omega)
    rw [List.drop_zero] at cv
    refine ⟨_, cv.step fun q => ?_, ?_⟩
    · simp only [spec_RingWithAll.l0]
      rw [if_neg (by omega)]
      rfl
    · have es : slices_Sort_string_string.f Y = some (sortB Y) := by unfold slices_Sort_string_string.f; exact if_pos (by omega)
      have el : (sortB Y).map (fun b => b.data.toList) = X.map fun b => b.data.toList := by
        unfold sortB
        rw [sort_is hs hp, List.map_map, List.map_map]
        rfl
      have eL : (sortB Y).length = X.length := by
        have := congrArg List.length el
        rwa [List.length_map, List.length_map] at this
      have ej : Lib.join ((sortB Y).map (fun b => b.data.toList)) [] = cat X := by rw [join_nil, el]; rfl
      have et : strings_Join.f (sortB Y) (⟨#[]⟩ : ByteArray) = some ⟨(cat X).toArray⟩ := by
        unfold strings_Join.f
        have e0 : (⟨#[]⟩ : ByteArray).data.toList = [] := rfl
        rw [e0, ej, if_pos ⟨by omega, by omega⟩]
      refine (Mth.Evn.now _).step fun q => ?_
      simp only [impl_RingWithAll.l0]
      rw [if_neg (by omega), es]
      simp only [Option.bind_some]
      rw [et]
      rfl
  | succ d ih =>
    intro k X Y hk hk1 hs hp hY hw
    have t := (@tdivmod k n).1
    have c1 : (k : Int) ≤ (n : Int) := by omega
    have c2 : ¬ (k : Int) = 0 := by omega
    have ew : wrap64 ((k : Int) + 1) = ((k + 1 : Nat) : Int) := wrap_succ k (by omega)
    by_cases c : n % k = 0
    · have hpow : a ^ k ≤ 300 := Nat.le_trans (Nat.pow_le_pow_right h (by omega)) hN
      obtain ⟨L, l1, lw, l2, l3⟩ := primes_two (a := a) (n := k) h h' hk1 (by omega) hpow
      have hXl : X.length = Y.length := hp.length_eq
      obtain ⟨X', x1, x2, x3⟩ := all_ev (a := (a : Int)) (n := (n : Int)) (k := (k : Int)) (W := L) (by omega) L.length 0 X (by omega) (by omega) hs
      rw [List.drop_zero] at x2
      obtain ⟨r, r1, r2⟩ := ih (k + 1) X' (Y ++ L) (by omega) (by omega) x1 (x2.trans (List.Perm.append_right L hp)) (by rw [List.length_append]; omega) (fun w hm => by
        rcases List.mem_append.1 hm with hm | hm
        · exact hw w hm
        · have := lw w hm; omega)
      have ct : Int.tmod (n : Int) (k : Int) = 0 := by rw [t, c]; rfl
      refine ⟨r, ?_, ?_⟩
      · refine Mth.Evn.step (fun q => by simp only [spec_RingWithAll.l0]; rw [if_pos c1, if_neg c2, if_pos ct]) ?_
        refine l2.bind ?_
        exact x3 _ (by rw [ew]; exact r1)
      · refine Mth.Evn.step (fun q => by simp only [impl_RingWithAll.l0]; rw [if_pos c1, if_neg c2, if_pos ct]) ?_
        refine l3.bind ?_
        refine Mth.Evn.congr (fun q => ?_) r2
        rw [if_pos (by omega), ew]
    · have ct : ¬ Int.tmod (n : Int) (k : Int) = 0 := by
        rw [t]
        generalize n % k = z at c
        omega
      obtain ⟨r, r1, r2⟩ := ih (k + 1) X Y (by omega) (by omega) hs hp (by omega) hw
      refine ⟨r, r1.step fun q => ?_, r2.step fun q => ?_⟩
      · simp only [spec_RingWithAll.l0]
        rw [if_pos c1, if_neg c2, if_neg ct, ew]
      · simp only [impl_RingWithAll.l0]
        rw [if_pos c1, if_neg c2, if_neg ct, ew]
theorem holds (a0 : Int) (a1 : Int) (w0 : (Lit.int .i64 a0).wf = true) (w1 : (Lit.int .i64 a1).wf = true) : ∃ k, laws_FnExactRingWithAll.f k a0 a1 = some true := by
  have hE : Mth.Evn (fun k => laws_FnExactRingWithAll.f k a0 a1) true := by
    have core : ∃ (L : ByteArray) (b : Bool), Mth.Evn (fun k => spec_RingWithAll.f k a0 a1) (L, b) ∧ Mth.Evn (fun k => impl_RingWithAll.f k a0 a1) (L, b) := by
      by_cases c1 : 1 ≤ a0 ∧ a0 ≤ 26
      · by_cases c2 : 1 ≤ a1 ∧ a1 ≤ 8
        · obtain ⟨a, rfl⟩ : ∃ m : Nat, a0 = (m : Int) := ⟨a0.toNat, by omega⟩
          obtain ⟨n, rfl⟩ : ∃ m : Nat, a1 = (m : Int) := ⟨a1.toNat, by omega⟩
          obtain ⟨p1, p2⟩ := powers_two (a := a) (n := n) (by omega) (by omega) (by omega)
          have f1 : Mth.Evn (fun k => spec_woFew.f k a n) (decide (a ^ n ≤ 300)) := by
            refine Mth.Evn.congr (g := fun k => (spec_woPower.f k a n).bind fun t => some (decide (t ≤ 300))) (fun k => ?_) ?_
            · simp only [spec_woFew.f, spec_woLong.f, spec_woAlphabet.f, l1In_eq, Option.bind_some]
              simp [c1, c2]
            · refine p1.bind ?_
              rw [show decide (((a ^ n : Nat) : Int) ≤ 300) = decide (a ^ n ≤ 300) by
                rw [decide_eq_decide]; generalize a ^ n = z; omega]
              exact Mth.Evn.now _
          have f2 : Mth.Evn (fun k => impl_areFew.f k a n) (decide (a ^ n ≤ 300)) := by
            refine Mth.Evn.congr (g := fun k => (impl_power.f k a n).bind fun t => some (decide (t ≤ 300))) (fun k => ?_) ?_
            · simp only [impl_areFew.f, impl_areLong.f, within_eq, Option.bind_some]
              simp [c1, c2]
            · refine p2.bind ?_
              rw [show decide (((a ^ n : Nat) : Int) ≤ 300) = decide (a ^ n ≤ 300) by
                rw [decide_eq_decide]; generalize a ^ n = z; omega]
              exact Mth.Evn.now _
          by_cases c3 : a ^ n ≤ 300
          · obtain ⟨L, l2, l3⟩ := ring_two (a := a) (n := n) (by omega) (by omega) (by omega) (by omega) c3 n 1 [] [] (by omega) (by omega) (by simp [srt]) (List.Perm.refl _) (by simp) (by simp)
            rw [decide_eq_true c3] at f1 f2
            refine ⟨L, true, ?_, ?_⟩
            · unfold spec_RingWithAll.f
              refine f1.bind ?_
              refine Mth.Evn.congr (fun k => if_pos rfl) ?_
              exact l2
            · unfold impl_RingWithAll.f
              refine f2.bind ?_
              refine Mth.Evn.congr (fun k => if_pos rfl) ?_
              exact l3
          · rw [decide_eq_false c3] at f1 f2
            refine ⟨⟨#[]⟩, false, ?_, ?_⟩
            · unfold spec_RingWithAll.f
              refine f1.bind ?_
              exact Mth.Evn.congr (fun k => if_neg (by simp)) (Mth.Evn.now _)
            · unfold impl_RingWithAll.f
              refine f2.bind ?_
              exact Mth.Evn.congr (fun k => if_neg (by simp)) (Mth.Evn.now _)
        · refine ⟨⟨#[]⟩, false, ?_, ?_⟩
          · refine Mth.Evn.congr (fun k => ?_) (Mth.Evn.now _)
            simp only [spec_RingWithAll.f, spec_woFew.f, spec_woLong.f, spec_woAlphabet.f, l1In_eq, Option.bind_some]
            simp [c1, c2]
          · refine Mth.Evn.congr (fun k => ?_) (Mth.Evn.now _)
            simp only [impl_RingWithAll.f, impl_areFew.f, impl_areLong.f, within_eq, Option.bind_some]
            simp [c1, c2]
      · refine ⟨⟨#[]⟩, false, ?_, ?_⟩
        · refine Mth.Evn.congr (fun k => ?_) (Mth.Evn.now _)
          simp only [spec_RingWithAll.f, spec_woFew.f, spec_woLong.f, spec_woAlphabet.f, l1In_eq, Option.bind_some]
          simp [c1]
        · refine Mth.Evn.congr (fun k => ?_) (Mth.Evn.now _)
          simp only [impl_RingWithAll.f, impl_areFew.f, impl_areLong.f, within_eq, Option.bind_some]
          simp [c1]
    obtain ⟨L, b, hs, hi⟩ := core
    unfold laws_FnExactRingWithAll.f
    refine hs.bind ?_
    refine hi.bind ?_
    refine Mth.Evn.congr (fun k => if_pos rfl) ?_
    refine Mth.Evn.congr (fun k => if_neg (by simp)) ?_
    exact Mth.Evn.now _
  exact hE.get
end Go.Proofs.Ytfpbpiodoajpiaa.PureFnExactRingWithAll
