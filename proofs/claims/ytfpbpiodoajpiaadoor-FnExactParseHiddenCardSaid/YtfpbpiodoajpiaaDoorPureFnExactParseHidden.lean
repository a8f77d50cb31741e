/- The pure statement of FnExactParseHidden: both sides read just the texts of hidden chains. No condition. -/
import Derived.Test.YtfpbpiodoajpiaaDoorQFnExactParseHiddenx5
import Derived.Test.YtfpbpiodoajpiaaDoorMath
import Derived.OpenShut
namespace Go.Proofs.YtfpbpiodoajpiaaDoor.PureFnExactParseHidden
open Go Go.RowKit Go.Proofs.YtfpbpiodoajpiaaDoor.QFnExactParseHidden Go.Proofs.YtfpbpiodoajpiaaDoorW.PrintWords Go.Proofs.YtfpbpiodoajpiaaDoorW.PrintLast Go.Proofs.YtfpbpiodoajpiaaDoorW.PrintMore
set_option linter.unusedVariables false
set_option linter.unusedSimpArgs false

theorem wrap_id {x : Int} (h : -9223372036854775808 ≤ x) (h' : x ≤ 9223372036854775807) : wrap64 x = x := by unfold wrap64; omega
theorem ite_dec (p q : Prop) [Decidable p] [Decidable q] : (if decide p = true then some (decide q) else some false) = some (decide (p ∧ q)) := by
  by_cases h : p <;> simp [h]
theorem some_dec {p q : Prop} [Decidable p] [Decidable q] (h : p ↔ q) : some (decide p) = some (decide q) := by rw [decide_eq_decide.2 h]
theorem div_in {x g : Int} {M : Int} (hM : M ≤ 9223372036854775807) (h : -M ≤ x) (h' : x ≤ M) (hd : g ∣ x) (h0 : g ≠ 0) : wrap64 (Int.tdiv x g) = x / g := by
  rw [Int.tdiv_eq_ediv_of_dvd hd]
  obtain ⟨c, rfl⟩ := hd
  rw [Int.mul_ediv_cancel_left _ h0]
  have : c.natAbs ≤ (g * c).natAbs := by rw [Int.natAbs_mul]; exact Nat.le_mul_of_pos_left _ (by omega)
  exact wrap_id (by omega) (by omega)
theorem l1In_eq (a b c : Int) : spec_l1In.f a b c = some (decide (b ≤ a ∧ a ≤ c)) := by
  unfold spec_l1In.f
  by_cases h : a ≥ b
  · rw [if_pos h]; simp [show b ≤ a from h]
  · rw [if_neg h]; simp; omega
theorem within_eq (a b c : Int) : impl_within.f a b c = some (decide (b ≤ a ∧ a ≤ c)) := by
  unfold impl_within.f
  by_cases h : a ≥ b
  · rw [if_pos h]; simp [show b ≤ a from h]
  · rw [if_neg h]; simp; omega
theorem cnGood_eq (a b c : Int) : spec_cnGood.f a b c = some (decide ((1 ≤ c ∧ c ≤ 10) ∧ (0 ≤ a ∧ a ≤ c) ∧ (0 ≤ b ∧ b ≤ c))) := by
  unfold spec_cnGood.f; simp only [l1In_eq, Option.bind_some]
  by_cases h : 1 ≤ c ∧ c ≤ 10 <;> by_cases h2 : 0 ≤ a ∧ a ≤ c <;> simp [h, h2]
theorem IsChain_eq (a b c : Int) : impl_IsChain.f a b c = some (decide ((1 ≤ c ∧ c ≤ 10) ∧ (0 ≤ a ∧ a ≤ c) ∧ (0 ≤ b ∧ b ≤ c))) := by
  unfold impl_IsChain.f; simp only [within_eq, Option.bind_some]
  by_cases h : 1 ≤ c ∧ c ≤ 10 <;> by_cases h2 : 0 ≤ a ∧ a ≤ c <;> simp [h, h2]
theorem hdGood_eq (a b c d e g : Int) : spec_hdGood.f a b c d e g = some (decide (((1 ≤ c ∧ c ≤ 10) ∧ (0 ≤ a ∧ a ≤ c) ∧ (0 ≤ b ∧ b ≤ c)) ∧ (1 ≤ g ∧ g ≤ 10) ∧ (0 ≤ d ∧ d ≤ g) ∧ (0 ≤ e ∧ e ≤ g))) := by
  unfold spec_hdGood.f; simp only [cnGood_eq, l1In_eq, Option.bind_some]
  by_cases h : (1 ≤ c ∧ c ≤ 10) ∧ (0 ≤ a ∧ a ≤ c) ∧ (0 ≤ b ∧ b ≤ c)
  · by_cases h1 : 1 ≤ g ∧ g ≤ 10 <;> by_cases h2 : 0 ≤ d ∧ d ≤ g <;> simp [h, h1, h2]
  · simp only [h, decide_false, false_and, Bool.false_eq_true, if_false]
theorem IsHidden_eq (a b c d e g : Int) : impl_IsHidden.f a b c d e g = some (decide (((1 ≤ c ∧ c ≤ 10) ∧ (0 ≤ a ∧ a ≤ c) ∧ (0 ≤ b ∧ b ≤ c)) ∧ (1 ≤ g ∧ g ≤ 10) ∧ (0 ≤ d ∧ d ≤ g) ∧ (0 ≤ e ∧ e ≤ g))) := by
  unfold impl_IsHidden.f; simp only [IsChain_eq, within_eq, Option.bind_some]
  by_cases h : (1 ≤ c ∧ c ≤ 10) ∧ (0 ≤ a ∧ a ≤ c) ∧ (0 ≤ b ∧ b ≤ c)
  · by_cases h1 : 1 ≤ g ∧ g ≤ 10 <;> by_cases h2 : 0 ≤ d ∧ d ≤ g <;> simp [h, h1, h2]
  · simp only [h, decide_false, false_and, Bool.false_eq_true, if_false]

def dd (n : Nat) : List UInt8 := if n < 10 then [UInt8.ofNat (48 + n)] else [UInt8.ofNat (48 + n / 10), UInt8.ofNat (48 + n % 10)]
theorem dec_dd (n : Nat) (h : n < 100) : Lib.decDigits n = dd n := by
  unfold dd
  by_cases c : n < 10
  · rw [if_pos c, Lib.decDigits, dif_pos c]
  · rw [if_neg c, Lib.decDigits, dif_neg c, Lib.decDigits, dif_pos (by omega)]; rfl
def ofB : ByteArray := ⟨#[111, 102]⟩
def TT (p g : Nat) : ByteArray := ⟨(dd p ++ [111, 102] ++ dd g).toArray⟩
theorem pos_impl : ∀ p g : Fin 17, Lib.countB (TT p g) ofB = 1 ∧ (Lib.splitB ofB 0 1 (TT p g)).map (fun b => b.data.toList) = [dd p, dd g] := by decide +kernel
theorem pos_atoi : ∀ p : Fin 17, Lib.atoiAll (dd p) = .ok ((p.val : Nat) : Int) := by decide +kernel
theorem bytes_eq {a b : ByteArray} (h : a.data.toList = b.data.toList) : a = b := by
  apply ByteArray.ext
  exact Array.toList_inj.1 h
theorem app_list (a b : ByteArray) : (a ++ b).data.toList = a.data.toList ++ b.data.toList := by simp
theorem ext_list (w : ByteArray) (i j : Nat) : (w.extract i j).data.toList = (w.data.toList.take j).drop i := by
  rw [ByteArray.data_extract]
  simp [Array.toList_extract, List.extract_eq_take_drop, List.drop_take]
theorem split_two {t a b : ByteArray} (h : Lib.splitB ofB 0 (Lib.countB t ofB) t = [a, b]) (hc : Lib.countB t ofB = 1) : t.data.toList = a.data.toList ++ [111, 102] ++ b.data.toList := by
  rw [hc] at h
  rcases Lib.index_spec t.data.toList ofB.data.toList with ⟨h1, _⟩ | ⟨i, h1, h2, h3, _⟩
  · rw [Lib.splitB_miss _ _ _ _ h1] at h; cases h
  · rw [Lib.splitB_hit _ _ _ _ i h1, Lib.splitB_zero] at h
    have e1 : t.extract 0 (i + 0) = a := (List.cons.inj h).1
    have e2 : t.extract (i + ofB.size) t.size = b := (List.cons.inj (List.cons.inj h).2).1
    have z : ofB.size = 2 := rfl
    rw [z] at e2
    have l1 : a.data.toList = t.data.toList.take i := by rw [← e1, ext_list]; simp
    have l2 : b.data.toList = t.data.toList.drop (i + 2) := by
      rw [← e2, ext_list, List.take_of_length_le (by rw [Array.length_toList]; exact Nat.le_refl _)]
    have l3 : (t.data.toList.drop i).take 2 = [111, 102] := by
      obtain ⟨r, hr⟩ := List.isPrefixOf_iff_prefix.1 h3
      rw [← hr]; rfl
    rw [l1, l2, ← l3, List.append_assoc, ← List.drop_drop, List.take_append_drop, List.take_append_drop]
theorem occ_at {x y : List UInt8} {c : UInt8} : Lib.occAt (x ++ c :: y) [c] x.length = true := by
  unfold Lib.occAt
  rw [List.drop_left]
  simp [List.isPrefixOf]
theorem occ_not {s : List UInt8} {c : UInt8} {j : Nat} (h : s[j]? ≠ some c) : Lib.occAt s [c] j = false := by
  unfold Lib.occAt
  cases hd : s.drop j with
  | nil => rfl
  | cons b r =>
    have hb : s[j]? = some b := by
      have := congrArg List.head? hd
      rwa [List.head?_drop] at this
    have : b ≠ c := fun e => h (by rw [hb, e])
    simp [List.isPrefixOf, this.symm]
theorem idx1 {x y : List UInt8} {c : UInt8} (h : c ∉ x) : Lib.index (x ++ c :: y) [c] = x.length := by
  refine Lib.index_first (by simp) occ_at (fun j hj => occ_not ?_)
  rw [List.getElem?_append_left hj]
  intro e
  exact h (List.mem_of_getElem? e)
theorem idx0 {x : List UInt8} {c : UInt8} (h : c ∉ x) : Lib.index x [c] = -1 := by
  rcases Lib.index_spec x [c] with ⟨h1, _⟩ | ⟨i, h1, h2, h3, _⟩
  · exact h1
  · refine absurd h3 ?_
    rw [occ_not (fun e => h (List.mem_of_getElem? e))]
    simp
theorem cut1 {x y : List UInt8} {c : UInt8} (h : c ∉ x) : Lib.cut (x ++ c :: y) [c] = (x, y, true) := by
  unfold Lib.cut
  rw [idx1 h, if_pos (by omega)]
  simp
theorem cut0 {x : List UInt8} {c : UInt8} (h : c ∉ x) : Lib.cut x [c] = (x, [], false) := by
  unfold Lib.cut
  rw [idx0 h, if_neg (by omega)]
theorem parts (c : UInt8) : ∀ s : List UInt8, (c ∉ s) ∨ ∃ x y, s = x ++ c :: y ∧ c ∉ x
  | [] => .inl (by simp)
  | b :: s => by
    by_cases hb : b = c
    · exact .inr ⟨[], s, by rw [hb]; rfl, by simp⟩
    · rcases parts c s with h | ⟨x, y, h, hx⟩
      · exact .inl (by simp [h, Ne.symm hb])
      · exact .inr ⟨b :: x, y, by rw [h]; rfl, by simp [hx, Ne.symm hb]⟩
def sepB (c : UInt8) : ByteArray := ⟨#[c]⟩
theorem cf0 {s : List UInt8} {c : UInt8} (h : c ∉ s) : ∀ n, Lib.countFrom [c] n s = 0
  | 0 => rfl
  | n + 1 => by rw [Lib.countFrom, idx0 h]; rfl
theorem split0 {t : ByteArray} {c : UInt8} (h : c ∉ t.data.toList) : Lib.splitB (sepB c) 0 (Lib.countB t (sepB c)) t = [t] := by
  have : Lib.countB t (sepB c) = 0 := cf0 h _
  rw [this, Lib.splitB_zero]
theorem split1 {t : ByteArray} {x y : List UInt8} {c : UInt8} (ht : t.data.toList = x ++ c :: y) (hx : c ∉ x) (hy : c ∉ y) : Lib.countB t (sepB c) = 1 ∧ Lib.splitB (sepB c) 0 (Lib.countB t (sepB c)) t = [⟨x.toArray⟩, ⟨y.toArray⟩] := by
  have hi : Lib.index t.data.toList [c] = x.length := by rw [ht]; exact idx1 hx
  have hc : Lib.countB t (sepB c) = 1 := by
    show Lib.countFrom [c] (t.data.toList.length + 1) t.data.toList = 1
    rw [Lib.countFrom, hi]
    have hne : ¬ ((x.length : Int) == -1) = true := fun e => by have := beq_iff_eq.1 e; omega
    rw [if_neg hne]
    have hd : t.data.toList.drop ((x.length : Int).toNat + [c].length) = y := by
      rw [ht, Int.toNat_natCast]
      show (x ++ c :: y).drop (x.length + 1) = y
      rw [List.drop_append]; simp
    rw [hd, cf0 hy]
  refine ⟨hc, ?_⟩
  rw [hc, Lib.splitB_hit _ _ _ _ x.length hi, Lib.splitB_zero]
  have e1 : t.extract 0 (x.length + 0) = ⟨x.toArray⟩ := bytes_eq (by rw [ext_list, ht]; simp)
  have e2 : t.extract (x.length + (sepB c).size) t.size = ⟨y.toArray⟩ := bytes_eq (by
    rw [ext_list, List.take_of_length_le (by rw [Array.length_toList]; exact Nat.le_refl _), ht]
    show (x ++ c :: y).drop (x.length + 1) = y
    rw [List.drop_append]; simp)
  rw [e1, e2]
theorem split_inv {t a b : ByteArray} {c : UInt8} (h : Lib.splitB (sepB c) 0 (Lib.countB t (sepB c)) t = [a, b]) : t.data.toList = a.data.toList ++ c :: b.data.toList := by
  have hl := Lib.splitB_all (sepB c) (Nat.le_refl 1) 0 (Lib.countB t (sepB c)) t rfl
  rw [h] at hl
  have hc : Lib.countB t (sepB c) = 1 := by simp at hl; omega
  rw [hc] at h
  rcases parts c t.data.toList with hn | ⟨x, y, ht, hx⟩
  · rw [Lib.splitB_miss _ _ _ _ (show Lib.indexB t (sepB c) = -1 from idx0 hn)] at h; cases h
  · have hi : Lib.indexB t (sepB c) = x.length := by
      show Lib.index t.data.toList [c] = x.length
      rw [ht]; exact idx1 hx
    rw [Lib.splitB_hit _ _ _ _ x.length hi, Lib.splitB_zero] at h
    have e1 := (List.cons.inj h).1
    have e2 := (List.cons.inj (List.cons.inj h).2).1
    have l1 : a.data.toList = x := by rw [← e1, ext_list, ht]; simp
    have l2 : b.data.toList = y := by
      rw [← e2, ext_list, List.take_of_length_le (by rw [Array.length_toList]; exact Nat.le_refl _), ht]
      show (x ++ c :: y).drop (x.length + 1) = y
      rw [List.drop_append]; simp
    rw [l1, l2, ht]
def val (n : Nat) (r : List UInt8) : Nat := r.foldl (fun a c => 10 * a + (c.toNat - 48)) n
theorem val_nil (a : Nat) : val a [] = a := by unfold val; rw [List.foldl_nil]
theorem val_cons (a : Nat) (c : UInt8) (r : List UInt8) : val a (c :: r) = val (10 * a + (c.toNat - 48)) r := by unfold val; rw [List.foldl_cons]
def isDig (c : UInt8) : Prop := 48 ≤ c.toNat ∧ c.toNat ≤ 57
theorem dig_back {c : UInt8} (h : isDig c) : UInt8.ofNat (48 + (c.toNat - 48)) = c := by
  obtain ⟨h1, h2⟩ := h
  apply UInt8.toNat_inj.1
  rw [UInt8.toNat_ofNat']
  omega
theorem dec_step {n d : Nat} (hn : 0 < n) (hd : d < 10) : Lib.decDigits (10 * n + d) = Lib.decDigits n ++ [UInt8.ofNat (48 + d)] := by
  rw [Lib.decDigits, dif_neg (by omega), show (10 * n + d) / 10 = n by omega, show (10 * n + d) % 10 = d by omega]
theorem dec_val (r : List UInt8) : ∀ n : Nat, 0 < n → (∀ c, c ∈ r → isDig c) → Lib.decDigits (val n r) = Lib.decDigits n ++ r := by
  induction r with
  | nil => intro n hn h; rw [val_nil, List.append_nil]
  | cons c r ih =>
    intro n hn h
    have hc := h c List.mem_cons_self
    have hlt : c.toNat - 48 < 10 := by have := hc.2; omega
    have e := ih (10 * n + (c.toNat - 48)) (by omega) (fun x hx => h x (List.mem_cons_of_mem _ hx))
    rw [val_cons, e, dec_step hn hlt, dig_back hc, List.append_assoc]
    rfl
/-- A numeral that begins with no needless 0 is its number's own text. -/
theorem canon {c : UInt8} {r : List UInt8} (h : ∀ x, x ∈ c :: r → isDig x) (h0 : c.toNat ≠ 48 ∨ r = []) : Lib.decDigits (val 0 (c :: r)) = c :: r := by
  have hc := h c List.mem_cons_self
  have hlt : c.toNat - 48 < 10 := by have := hc.2; omega
  have e1 : Lib.decDigits (c.toNat - 48) = [c] := by rw [Lib.decDigits, dif_pos hlt, dig_back hc]
  have e0 : 10 * 0 + (c.toNat - 48) = c.toNat - 48 := by omega
  rw [val_cons, e0]
  rcases h0 with h0 | rfl
  · have hp : 0 < c.toNat - 48 := by have := hc.1; omega
    rw [dec_val r _ hp (fun x hx => h x (List.mem_cons_of_mem _ hx)), e1]
    rfl
  · rw [val_nil, e1]
/-- A text's pieces at a sign. -/
def pieces (c : UInt8) : List UInt8 → List UInt8 → List (List UInt8)
  | cur, [] => [cur]
  | cur, b :: s => if b = c then cur :: pieces c [] s else pieces c (cur ++ [b]) s
def mkB (l : List UInt8) : ByteArray := ⟨l.toArray⟩
theorem mkB_list (l : List UInt8) : (mkB l).data.toList = l := rfl
theorem mkB_size (l : List UInt8) : (mkB l).size = l.length := rfl
theorem size_list (t : ByteArray) : t.size = t.data.toList.length := by rw [Array.length_toList]; rfl
theorem mkB_back (t : ByteArray) : mkB t.data.toList = t := bytes_eq rfl
theorem pieces_none {c : UInt8} : ∀ {x : List UInt8} (cur : List UInt8), c ∉ x → pieces c cur x = [cur ++ x]
  | [], cur, _ => by rw [pieces, List.append_nil]
  | b :: x, cur, h => by
    have hb : b ≠ c := fun e => h (by rw [e]; exact List.mem_cons_self)
    rw [pieces, if_neg hb, pieces_none (cur ++ [b]) (fun e => h (List.mem_cons_of_mem _ e)), List.append_assoc]; rfl
theorem pieces_at {c : UInt8} : ∀ {x : List UInt8} (y cur : List UInt8), c ∉ x → pieces c cur (x ++ c :: y) = (cur ++ x) :: pieces c [] y
  | [], y, cur, _ => by rw [List.nil_append, pieces, if_pos rfl, List.append_nil]
  | b :: x, y, cur, h => by
    have hb : b ≠ c := fun e => h (by rw [e]; exact List.mem_cons_self)
    rw [List.cons_append, pieces, if_neg hb, pieces_at y (cur ++ [b]) (fun e => h (List.mem_cons_of_mem _ e)), List.append_assoc]; rfl
theorem pieces_pos {c : UInt8} : ∀ (s cur : List UInt8), 1 ≤ (pieces c cur s).length
  | [], cur => by rw [pieces]; exact Nat.le_refl _
  | b :: s, cur => by
    rw [pieces]; split
    · simp
    · exact pieces_pos s _
theorem pieces_len {c : UInt8} : ∀ (s cur : List UInt8), (pieces c cur s).length ≤ s.length + 1
  | [], cur => by rw [pieces]; exact Nat.le_refl _
  | b :: s, cur => by
    rw [pieces]; split
    · have := pieces_len (c := c) s []; simp; omega
    · have := pieces_len (c := c) s (cur ++ [b]); simp; omega
theorem pieces_one {c : UInt8} {s a : List UInt8} (h : pieces c [] s = [a]) : s = a := by
  rcases parts c s with hn | ⟨x, y, rfl, hx⟩
  · rw [pieces_none [] hn] at h; exact (List.cons.inj h).1
  · rw [pieces_at y [] hx] at h
    have := pieces_pos (c := c) y []
    rw [(List.cons.inj h).2] at this
    exact absurd this (by simp)
theorem pieces_two {c : UInt8} {s a b : List UInt8} (h : pieces c [] s = [a, b]) : s = a ++ c :: b := by
  rcases parts c s with hn | ⟨x, y, rfl, hx⟩
  · rw [pieces_none [] hn] at h; cases (List.cons.inj h).2
  · rw [pieces_at y [] hx] at h
    have h1 := (List.cons.inj h).1
    have h2 := pieces_one (List.cons.inj h).2
    rw [← h1, ← h2]; rfl
theorem pieces_piece {c : UInt8} : ∀ (s cur p : List UInt8), p ∈ pieces c cur s → p.length ≤ cur.length + s.length
  | [], cur, p, h => by
    rw [pieces, List.mem_singleton] at h; subst h; simp
  | b :: s, cur, p, h => by
    rw [pieces] at h
    split at h
    · rcases List.mem_cons.1 h with rfl | h
      · simp
      · have := pieces_piece s [] p h; simp at this ⊢; omega
    · have := pieces_piece s _ p h; simp at this ⊢; omega
theorem split_pieces (c : UInt8) : ∀ (n : Nat) (t : ByteArray), t.size ≤ n → Lib.splitB (sepB c) 0 (Lib.countB t (sepB c)) t = (pieces c [] t.data.toList).map mkB
  | n, t, hn => by
    rcases parts c t.data.toList with h | ⟨x, y, ht, hx⟩
    · rw [split0 h, pieces_none [] h]
      exact congrArg (fun z => [z]) (mkB_back t).symm
    · have hi : Lib.indexB t (sepB c) = x.length := by
        show Lib.index t.data.toList [c] = x.length
        rw [ht]; exact idx1 hx
      have hc := Lib.countB_hit t (sepB c) x.length (Nat.le_refl 1) hi
      have hz : t.size = x.length + 1 + y.length := by rw [size_list, ht]; simp; omega
      have e1 : t.extract 0 (x.length + 0) = mkB x := bytes_eq (by rw [ext_list, ht]; simp; rfl)
      have e2 : t.extract (x.length + (sepB c).size) t.size = mkB y := bytes_eq (by
        rw [ext_list, List.take_of_length_le (by rw [Array.length_toList]; exact Nat.le_refl _), ht]
        show (x ++ c :: y).drop (x.length + 1) = y
        rw [List.drop_append]; simp)
      rw [e2] at hc
      obtain ⟨n, rfl⟩ : ∃ m, n = m + 1 := ⟨n - 1, by omega⟩
      have ih := split_pieces c n (mkB y) (by rw [mkB_size]; omega)
      have hc2 : Lib.countB t (sepB c) = Lib.countB (mkB y) (sepB c) + 1 := by rw [hc]; omega
      rw [hc2, Lib.splitB_hit _ _ _ _ x.length hi, e1, e2, ih, ht, pieces_at y [] hx]
      rfl
theorem dec_isDig : ∀ (n : Nat) (c : UInt8), c ∈ Lib.decDigits n → isDig c
  | n, c, h => by
    have one : ∀ d : Nat, d < 10 → isDig (UInt8.ofNat (48 + d)) := fun d hd => by
      unfold isDig; rw [UInt8.toNat_ofNat']; omega
    by_cases hn : n < 10
    · rw [Lib.decDigits, dif_pos hn, List.mem_singleton] at h
      subst h; exact one n hn
    · rw [Lib.decDigits, dif_neg hn] at h
      rcases List.mem_append.1 h with h | h
      · exact dec_isDig (n / 10) c h
      · rw [List.mem_singleton] at h; subst h; exact one _ (by omega)
theorem dec_ne (n : Nat) : Lib.decDigits n ≠ [] := by
  rw [Lib.decDigits]; split <;> simp
theorem no_sep {c : UInt8} (h : ¬ (48 ≤ c.toNat ∧ c.toNat ≤ 57)) (n : Nat) : c ∉ Lib.decDigits n := fun e => h (dec_isDig n c e)
/-- Up to three digits. -/
def d3 (n : Nat) : List UInt8 := if n < 10 then [UInt8.ofNat (48 + n)] else if n < 100 then [UInt8.ofNat (48 + n / 10), UInt8.ofNat (48 + n % 10)] else [UInt8.ofNat (48 + n / 100), UInt8.ofNat (48 + n / 10 % 10), UInt8.ofNat (48 + n % 10)]
theorem dec_d3 (n : Nat) (h : n < 1000) : Lib.decDigits n = d3 n := by
  unfold d3
  by_cases c : n < 10
  · rw [if_pos c, Lib.decDigits, dif_pos c]
  · rw [if_neg c, Lib.decDigits, dif_neg c]
    by_cases c2 : n < 100
    · rw [if_pos c2, Lib.decDigits, dif_pos (by omega)]; rfl
    · rw [if_neg c2, Lib.decDigits, dif_neg (by omega), Lib.decDigits, dif_pos (by omega), show n / 10 / 10 = n / 100 by omega]; rfl
theorem dec_len2 {n : Nat} (h : n ≤ 10) : (Lib.decDigits n).length ≤ 2 := by
  rw [dec_d3 n (by omega)]; unfold d3; split
  · simp
  · rw [if_pos (by omega)]; simp
theorem dec_len3 {n : Nat} (h : n < 1000) : (Lib.decDigits n).length ≤ 3 := by
  rw [dec_d3 n h]; unfold d3; split
  · simp
  · split <;> simp
/-- A text that is a number from 0 on, as it is written. -/
def okNum (w : ByteArray) : Option Int := match Lib.atoiAll w.data.toList with
  | .ok v => if v < 0 then none else if Lib.itoa v = w.data.toList then some v else none
  | _ => none
def rn : List ByteArray → List Int → List Int × Bool
  | [], acc => (acc, true)
  | w :: ws, acc => match okNum w with
    | some v => rn ws (acc ++ [v])
    | none => ([], false)
theorem dtl (b : ByteArray) : b.toList = b.data.toList := Go.ByteArray.toList_eq b
theorem body (w : ByteArray) (hw : w.size ≤ 4000000000) (F : Int → Option (List Int × Bool)) : ((strconv_Atoi.f w).bind fun bt => (if bt.2.isNone = true then (if bt.1 < 0 then (some (([] : List Int), false)) else ((strconv_Itoa.f bt.1).bind fun t => (if t.toList = w.toList then F bt.1 else (some (([] : List Int), false))))) else (some (([] : List Int), false)))) = match okNum w with
    | some v => F v
    | none => some ([], false) := by
  unfold strconv_Atoi.f
  rw [if_pos hw]
  unfold atoiP okNum
  cases ha : Lib.atoiAll w.data.toList with
  | ok v =>
    have hb := Lib.atoiAll_bounds ha
    simp only [Option.bind_some, Option.isNone_none, if_true]
    by_cases h0 : v < 0
    · simp only [if_pos h0]
    · simp only [if_neg h0]
      unfold strconv_Itoa.f
      rw [if_pos (by omega)]
      simp only [Option.bind_some, dtl]
      by_cases h1 : Lib.itoa v = w.data.toList
      · rw [if_pos h1]
        simp only [if_pos h1]
      · rw [if_neg h1]
        simp only [if_neg h1]
  | _ => rfl
theorem split_sizes (sep : ByteArray) : ∀ (k : Nat) (s w : ByteArray), w ∈ Lib.splitB sep 0 k s → w.size ≤ s.size
  | 0, s, w, h => by
    rw [Lib.splitB_zero] at h
    simp only [List.mem_cons, List.not_mem_nil, or_false] at h
    subst h; exact Nat.le_refl _
  | k + 1, s, w, h => by
    unfold Lib.splitB at h
    split at h
    · simp only [List.mem_cons, List.not_mem_nil, or_false] at h
      subst h; exact Nat.le_refl _
    · rcases List.mem_cons.1 h with rfl | h
      · rw [ByteArray.size_extract]; omega
      · have := split_sizes sep k _ w h
        rw [ByteArray.size_extract] at this; omega
theorem rn_ev (L : List ByteArray) (hl : L.length ≤ 4000000) (hs : ∀ w, w ∈ L → w.size ≤ 4000000000) : ∀ (d i : Nat) (acc : List Int), i + d = L.length → acc.length = i →
    Mth.Evn (fun k => impl_readNumbers.l0 k acc L (L.length : Int) i) (rn (L.drop i) acc)
  | 0, i, acc, hi, ha => by
    refine (Mth.Evn.now _).step fun k => ?_
    simp only [impl_readNumbers.l0]
    rw [if_neg (by omega), List.drop_of_length_le (by omega)]; rfl
  | d + 1, i, acc, hi, ha => by
    have hlt : i < L.length := by omega
    have er : rdOf ByteArray.empty L (i : Int) = L[i] := by unfold rdOf; rw [List.getD_eq_getElem?_getD, Int.toNat_natCast, List.getElem?_eq_getElem hlt]; rfl
    have hw := hs _ (List.getElem_mem hlt)
    have ew : wrap64 ((i : Int) + 1) = ((i + 1 : Nat) : Int) := by rw [wrap_id (by omega) (by omega)]; omega
    rw [List.drop_eq_getElem_cons hlt]
    cases hk : okNum L[i] with
    | none =>
      have e : rn (L[i] :: L.drop (i + 1)) acc = ([], false) := by rw [rn, hk]
      rw [e]
      refine (Mth.Evn.now _).step fun k => ?_
      simp only [impl_readNumbers.l0, er]
      rw [if_pos (by omega), if_pos (by omega), if_pos (by omega)]
      refine (body L[i] hw (fun v => if acc.length < 17592186044416 then impl_readNumbers.l0 k (acc ++ [v]) L (L.length : Int) (wrap64 ((i : Int) + 1)) else none)).trans ?_
      rw [hk]
    | some v =>
      have e : rn (L[i] :: L.drop (i + 1)) acc = rn (L.drop (i + 1)) (acc ++ [v]) := by rw [rn, hk]
      rw [e]
      have ih := rn_ev L hl hs d (i + 1) (acc ++ [v]) (by omega) (by simp; omega)
      refine ih.step fun k => ?_
      simp only [impl_readNumbers.l0, er]
      rw [if_pos (by omega), if_pos (by omega), if_pos (by omega)]
      refine (body L[i] hw (fun v => if acc.length < 17592186044416 then impl_readNumbers.l0 k (acc ++ [v]) L (L.length : Int) (wrap64 ((i : Int) + 1)) else none)).trans ?_
      rw [hk]
      show (if acc.length < 17592186044416 then _ else _) = _
      rw [if_pos (by omega), ew]
theorem readNumbers_ev {t sep : ByteArray} (ht : t.size ≤ 2000000) (h1 : 1 ≤ sep.size) : Mth.Evn (fun k => impl_readNumbers.f k t sep) (rn (Lib.splitB sep 0 (Lib.countB t sep) t) []) := by
  have hb := Lib.countB_mul_le sep h1 t.size t (Nat.le_refl _)
  have hb2 : Lib.countB t sep * 1 ≤ Lib.countB t sep * sep.size := Nat.mul_le_mul_left _ h1
  have hl := Lib.splitB_all sep h1 0 (Lib.countB t sep) t rfl
  have es : strings_Split.f t sep = some (Lib.splitB sep 0 (Lib.countB t sep) t) := by unfold strings_Split.f; exact if_pos ⟨by omega, h1⟩
  have := rn_ev (Lib.splitB sep 0 (Lib.countB t sep) t) (by omega) (fun w hw => by have := split_sizes sep _ t w hw; omega) (Lib.splitB sep 0 (Lib.countB t sep) t).length 0 [] (by omega) rfl
  rw [List.drop_zero] at this
  unfold impl_readNumbers.f
  rw [es]
  exact this
theorem rn_len : ∀ (L : List ByteArray) (acc xs : List Int), rn L acc = (xs, true) → xs.length = acc.length + L.length
  | [], acc, xs, h => by
    obtain ⟨rfl, _⟩ := Prod.mk.inj h; simp
  | w :: ws, acc, xs, h => by
    rw [rn] at h
    cases hk : okNum w with
    | none => rw [hk] at h; cases h
    | some v =>
      rw [hk] at h
      have := rn_len ws (acc ++ [v]) xs h
      simp at this ⊢; omega
theorem okNum_some {w : ByteArray} {v : Int} (h : okNum w = some v) : 0 ≤ v ∧ Lib.decDigits v.toNat = w.data.toList := by
  unfold okNum at h
  split at h
  · rename_i u hu
    split at h
    · cases h
    · split at h
      · rename_i h0 h1
        obtain rfl := Option.some.inj h
        refine ⟨by omega, ?_⟩
        rw [← h1, Lib.itoa, if_neg h0]
      · cases h
  · cases h
theorem okNum_dd (p : Nat) (h : p ≤ 16) : okNum ⟨(dd p).toArray⟩ = some (p : Int) := by
  have ha := pos_atoi ⟨p, by omega⟩
  dsimp only at ha
  unfold okNum
  show (match Lib.atoiAll (dd p) with | .ok v => if v < 0 then none else if Lib.itoa v = dd p then some v else none | _ => none) = _
  rw [ha]
  show (if (p : Int) < 0 then none else if Lib.itoa (p : Int) = dd p then some (p : Int) else none) = _
  have h0 : ¬ (p : Int) < 0 := by omega
  have hi : Lib.itoa (p : Int) = dd p := by unfold Lib.itoa; rw [if_neg h0, Int.toNat_natCast, dec_dd p (by omega)]
  rw [if_neg h0, if_pos hi]
theorem bt_list (t : ByteArray) {i : Nat} (h : i < t.data.toList.length) : bt t (i : Int) = ((t.data.toList[i]).toNat : Int) := by
  have hi : i < t.size := by rw [size_list]; exact h
  unfold bt
  rw [Int.toNat_natCast, dif_pos hi]
  rfl
/-- The reference model's cutting at a sign. -/
theorem l1Split_l0 (t : ByteArray) (c : UInt8) (ht : t.size ≤ 2000000) : ∀ (d i st : Nat) (acc : List ByteArray), i + d = t.size → st ≤ i → acc.length ≤ i →
    Mth.Evn (fun k => spec_l1Split.l0 k t (c.toNat : Int) acc st i) (acc ++ (pieces c ((t.data.toList.take i).drop st) (t.data.toList.drop i)).map mkB)
  | 0, i, st, acc, hi, hs, ha => by
    have hl := size_list t
    refine (Mth.Evn.now _).step fun k => ?_
    simp only [spec_l1Split.l0]
    rw [if_neg (by omega), if_pos (by omega), if_pos (by omega), if_pos (by omega), List.drop_of_length_le (l := t.data.toList) (i := i) (by omega), pieces]
    have e : t.extract st t.size = mkB ((t.data.toList.take i).drop st) := bytes_eq (by rw [ext_list, show i = t.size by omega]; rfl)
    rw [Int.toNat_natCast, e]; rfl
  | d + 1, i, st, acc, hi, hs, ha => by
    have hl := size_list t
    have hlt : i < t.data.toList.length := by omega
    have eb := bt_list t hlt
    have ew : wrap64 ((i : Int) + 1) = ((i + 1 : Nat) : Int) := by rw [wrap_id (by omega) (by omega)]; omega
    rw [List.drop_eq_getElem_cons hlt, pieces]
    by_cases hc : t.data.toList[i] = c
    · have e : t.extract st i = mkB ((t.data.toList.take i).drop st) := bytes_eq (by rw [ext_list]; rfl)
      have ih := l1Split_l0 t c ht d (i + 1) (i + 1) (acc ++ [mkB ((t.data.toList.take i).drop st)]) (by omega) (Nat.le_refl _) (by simp; omega)
      rw [List.drop_of_length_le (l := t.data.toList.take (i + 1)) (by simp; omega), List.append_assoc] at ih
      rw [if_pos hc]
      refine ih.step fun k => ?_
      simp only [spec_l1Split.l0]
      rw [if_pos (by omega), if_pos (by omega), if_pos (by rw [eb, hc]), if_pos (by omega), if_pos (by omega), if_pos (by omega), if_pos (by omega), ew, Int.toNat_natCast, Int.toNat_natCast, e]
    · have ih := l1Split_l0 t c ht d (i + 1) st acc (by omega) (by omega) (by omega)
      have e : (t.data.toList.take (i + 1)).drop st = (t.data.toList.take i).drop st ++ [t.data.toList[i]] := by
        rw [List.take_add_one, List.getElem?_eq_getElem hlt, List.drop_append_of_le_length (by simp; omega)]; rfl
      rw [e] at ih
      rw [if_neg hc]
      refine ih.step fun k => ?_
      simp only [spec_l1Split.l0]
      rw [if_pos (by omega), if_pos (by omega), if_neg (by rw [eb]; exact fun e2 => hc (UInt8.toNat_inj.1 (by omega))), ew]
theorem l1Split_ev {t : ByteArray} (ht : t.size ≤ 2000000) (c : UInt8) : Mth.Evn (fun k => spec_l1Split.f k t (c.toNat : Int)) ((pieces c [] t.data.toList).map mkB) := by
  have := l1Split_l0 t c ht t.size 0 0 [] (by omega) (Nat.le_refl _) (Nat.le_refl _)
  rw [List.nil_append, List.drop_zero, List.drop_zero, List.take_zero] at this
  unfold spec_l1Split.f
  exact this
theorem evn_of_mono {α : Type} {f : Nat → Option α} (hm : ∀ k, LeO (f k) (f (k + 1))) {N : Nat} {r : α} (h : f N = some r) : Mth.Evn f r := by
  refine ⟨N, fun k hk => ?_⟩
  obtain ⟨d, rfl⟩ : ∃ d, k = N + d := ⟨k - N, by omega⟩
  clear hk
  induction d with
  | zero => exact h
  | succ d ih => exact hm (N + d) r ih
theorem read_d3 : ∀ p : Fin 101, spec_l1Read.f 10 (mkB (d3 p)) = some ((p.val : Nat) : Int) := by decide +kernel
theorem read_yes {n : Nat} (h : n ≤ 100) : Mth.Evn (fun k => spec_l1Read.f k (mkB (Lib.decDigits n))) (n : Int) := by
  rw [dec_d3 n (by omega)]
  exact evn_of_mono (fun k => spec_l1Read.mono _ k) (read_d3 ⟨n, by omega⟩)
theorem l1Read_back (s : ByteArray) (hs : s.size ≤ 6) : ∀ (d i x : Nat), i + d = s.size → x < 10 ^ i →
    ∃ r : Int, Mth.Evn (fun k => spec_l1Read.l0 k s (x : Int) i) r ∧ (0 ≤ r → (∀ c, c ∈ s.data.toList.drop i → isDig c) ∧ r.toNat = val x (s.data.toList.drop i))
  | 0, i, x, hi, hx => by
    have hl := size_list s
    refine ⟨x, (Mth.Evn.now _).step fun k => by simp only [spec_l1Read.l0]; rw [if_neg (by omega)], fun _ => ?_⟩
    rw [List.drop_of_length_le (by omega), val_nil]
    exact ⟨fun c hc => (by cases hc), by omega⟩
  | d + 1, i, x, hi, hx => by
    have hl := size_list s
    have hlt : i < s.data.toList.length := by omega
    have eb := bt_list s hlt
    have ew : wrap64 ((i : Int) + 1) = ((i + 1 : Nat) : Int) := by rw [wrap_id (by omega) (by omega)]; omega
    have hp : 10 ^ i ≤ 10 ^ 6 := Nat.pow_le_pow_right (by omega) (by omega)
    have e6 : (10 : Nat) ^ 6 = 1000000 := by decide
    have es : (10 : Nat) ^ (i + 1) = 10 * 10 ^ i := by rw [Nat.pow_succ]; omega
    rw [List.drop_eq_getElem_cons hlt, val_cons]
    generalize s.data.toList[i] = b at eb ⊢
    by_cases c1 : bt s i < 48
    · exact ⟨-1, (Mth.Evn.now _).step fun k => by simp only [spec_l1Read.l0]; rw [if_pos (by omega), if_pos (by omega), if_pos c1], fun h => absurd h (by omega)⟩
    · by_cases c2 : bt s i > 57
      · exact ⟨-1, (Mth.Evn.now _).step fun k => by simp only [spec_l1Read.l0]; rw [if_pos (by omega), if_pos (by omega), if_neg c1, if_pos c2], fun h => absurd h (by omega)⟩
      · have hx2 : x < 1000000 := by omega
        obtain ⟨r, hr, h2⟩ := l1Read_back s hs d (i + 1) (10 * x + (b.toNat - 48)) (by omega) (by omega)
        have e1 : wrap64 ((wrap64 (10 * (x : Int))) + (((bt s i) - 48) % 256)) = ((10 * x + (b.toNat - 48) : Nat) : Int) := by
          rw [wrap_id (x := 10 * (x : Int)) (by omega) (by omega), eb]
          rw [eb] at c1 c2
          rw [wrap_id (by omega) (by omega)]; omega
        refine ⟨r, hr.step fun k => by simp only [spec_l1Read.l0]; rw [if_pos (by omega), if_pos (by omega), if_neg c1, if_neg c2, ew, e1], fun h => ?_⟩
        obtain ⟨h3, h4⟩ := h2 h
        refine ⟨fun c hc => ?_, h4⟩
        rcases List.mem_cons.1 hc with rfl | hc
        · unfold isDig; omega
        · exact h3 c hc
/-- The reference model's reading of a numeral: a number from 0 on is read of its own text alone. -/
theorem read_back (s : ByteArray) : ∃ r : Int, Mth.Evn (fun k => spec_l1Read.f k s) r ∧ (0 ≤ r → Lib.decDigits r.toNat = s.data.toList) := by
  have hl := size_list s
  have yes : Mth.Evn (fun k => spec_l1Read.j0 k s true) (-1) := (Mth.Evn.now _).step fun k => by simp only [spec_l1Read.j0]; rw [if_pos trivial]
  unfold spec_l1Read.f
  rw [l1In_eq]
  simp only [Option.bind_some]
  by_cases c : 1 ≤ (s.size : Int) ∧ (s.size : Int) ≤ 6
  · obtain ⟨r, hr, hb⟩ := l1Read_back s (by omega) s.size 0 0 (by omega) (by simp)
    rw [List.drop_zero] at hb
    have no : Mth.Evn (fun k => spec_l1Read.j0 k s false) r := hr.step fun k => by simp only [spec_l1Read.j0]; rw [if_neg (by simp)]; rfl
    have e0 := bt_list s (i := 0) (by omega)
    have fin : ((bt s 0 ≠ 48) ∨ s.size = 1) → 0 ≤ r → Lib.decDigits r.toNat = s.data.toList := by
      intro h0 h
      obtain ⟨h1, h2⟩ := hb h
      rw [h2]
      cases hs : s.data.toList with
      | nil =>
        rw [hs, List.length_nil] at hl
        omega
      | cons b q =>
        rw [hs] at h1 hl
        simp only [hs, List.getElem_cons_zero] at e0
        refine canon h1 ?_
        rcases h0 with h0 | h0
        · exact .inl (fun e => h0 (by rw [show (0 : Int) = ((0 : Nat) : Int) from rfl, e0, e]; rfl))
        · refine .inr ?_
          cases q with
          | nil => rfl
          | cons _ _ => simp at hl; omega
    by_cases c0 : bt s 0 = 48
    · by_cases c1 : (s.size : Int) > 1
      · exact ⟨-1, Mth.Evn.congr (fun k => (if_pos (decide_eq_true c)).trans ((if_pos (by omega)).trans ((if_pos c0).trans (by rw [decide_eq_true c1])))) yes, fun h => absurd h (by omega)⟩
      · exact ⟨r, Mth.Evn.congr (fun k => (if_pos (decide_eq_true c)).trans ((if_pos (by omega)).trans ((if_pos c0).trans (by rw [decide_eq_false c1])))) no, fin (.inr (by omega))⟩
    · exact ⟨r, Mth.Evn.congr (fun k => (if_pos (decide_eq_true c)).trans ((if_pos (by omega)).trans (if_neg c0))) no, fin (.inl c0)⟩
  · exact ⟨-1, Mth.Evn.congr (fun k => if_neg (by simpa using c)) yes, fun h => absurd h (by omega)⟩
theorem atoi_d3 : ∀ p : Fin 101, Lib.atoiAll (d3 p) = .ok ((p.val : Nat) : Int) := by decide +kernel
theorem okNum_yes {n : Nat} (h : n ≤ 100) : okNum (mkB (Lib.decDigits n)) = some (n : Int) := by
  have ha := atoi_d3 ⟨n, by omega⟩
  dsimp only at ha
  rw [← dec_d3 n (by omega)] at ha
  unfold okNum
  rw [mkB_list, ha]
  have h0 : ¬ (n : Int) < 0 := by omega
  have hi : Lib.itoa (n : Int) = Lib.decDigits n := by unfold Lib.itoa; rw [if_neg h0, Int.toNat_natCast]
  show (if (n : Int) < 0 then none else if Lib.itoa (n : Int) = Lib.decDigits n then some (n : Int) else none) = _
  rw [if_neg h0, if_pos hi]
theorem rn_yes : ∀ (ns : List Nat) (acc : List Int), (∀ n, n ∈ ns → n ≤ 100) → rn (ns.map fun n => mkB (Lib.decDigits n)) acc = (acc ++ ns.map (fun n : Nat => (n : Int)), true)
  | [], acc, _ => by simp [rn]
  | n :: ns, acc, h => by
    rw [List.map_cons, rn, okNum_yes (h n List.mem_cons_self)]
    have := rn_yes ns (acc ++ [(n : Int)]) (fun m hm => h m (List.mem_cons_of_mem _ hm))
    dsimp only
    rw [this, List.append_assoc]; rfl
theorem rn_back : ∀ (L : List ByteArray) (acc xs : List Int), rn L acc = (xs, true) → ∃ ns : List Nat, xs = acc ++ ns.map (fun n : Nat => (n : Int)) ∧ L.map (fun b => b.data.toList) = ns.map Lib.decDigits
  | [], acc, xs, h => by
    obtain ⟨rfl, _⟩ := Prod.mk.inj h
    exact ⟨[], by simp, rfl⟩
  | w :: ws, acc, xs, h => by
    rw [rn] at h
    cases hk : okNum w with
    | none => rw [hk] at h; cases h
    | some v =>
      rw [hk] at h
      obtain ⟨h0, hv⟩ := okNum_some hk
      obtain ⟨ns, e1, e2⟩ := rn_back ws (acc ++ [v]) xs h
      refine ⟨v.toNat :: ns, ?_, ?_⟩
      · rw [e1, List.append_assoc, List.map_cons, show ((v.toNat : Nat) : Int) = v by omega]; rfl
      · rw [List.map_cons, List.map_cons, e2, hv]
/-- What readNumbers comes to. -/
theorem nums_ev {t : ByteArray} (ht : t.size ≤ 2000000) (c : UInt8) : Mth.Evn (fun k => impl_readNumbers.f k t (sepB c)) (rn ((pieces c [] t.data.toList).map mkB) []) := by
  have := readNumbers_ev (t := t) (sep := sepB c) ht (Nat.le_refl 1)
  rwa [split_pieces c t.size t (Nat.le_refl _)] at this
theorem nums_yes {t : ByteArray} {c : UInt8} {ns : List Nat} (ht : t.size ≤ 2000000) (hp : pieces c [] t.data.toList = ns.map Lib.decDigits) (hs : ∀ n, n ∈ ns → n ≤ 100) : Mth.Evn (fun k => impl_readNumbers.f k t (sepB c)) (ns.map (fun n : Nat => (n : Int)), true) := by
  have := nums_ev ht c
  rw [hp, List.map_map] at this
  have e := rn_yes ns [] hs
  rw [List.nil_append] at e
  rw [show (mkB ∘ Lib.decDigits) = fun n => mkB (Lib.decDigits n) from rfl, e] at this
  exact this
/-- What readNumbers reads well is numbers' own texts. -/
theorem nums_back {t : ByteArray} (ht : t.size ≤ 2000000) (c : UInt8) : ∃ xs : List Int, ∃ b : Bool, Mth.Evn (fun k => impl_readNumbers.f k t (sepB c)) (xs, b) ∧ (b = true → 1 ≤ xs.length ∧ ∃ ns : List Nat, xs = ns.map (fun n : Nat => (n : Int)) ∧ pieces c [] t.data.toList = ns.map Lib.decDigits) := by
  have h := nums_ev ht c
  cases hr : rn ((pieces c [] t.data.toList).map mkB) [] with
  | mk xs b =>
    rw [hr] at h
    refine ⟨xs, b, h, ?_⟩
    rintro rfl
    have hl := rn_len _ _ _ hr
    have hp := pieces_pos (c := c) t.data.toList []
    obtain ⟨ns, e1, e2⟩ := rn_back _ _ _ hr
    refine ⟨by simp at hl; omega, ns, by rw [e1, List.nil_append], ?_⟩
    rw [← e2, List.map_map]
    exact (List.map_id _).symm
theorem n45 (n : Nat) : (45 : UInt8) ∉ Lib.decDigits n := no_sep (by decide) n
theorem n47 (n : Nat) : (47 : UInt8) ∉ Lib.decDigits n := no_sep (by decide) n
theorem n58 (n : Nat) : (58 : UInt8) ∉ Lib.decDigits n := no_sep (by decide) n
theorem n44 (n : Nat) : (44 : UInt8) ∉ Lib.decDigits n := no_sep (by decide) n
/-- A chain's text. -/
def C (a b c : Nat) : List UInt8 := Lib.decDigits a ++ 45 :: (Lib.decDigits b ++ 47 :: Lib.decDigits c)
def good (a b c : Nat) : Prop := (1 ≤ c ∧ c ≤ 10) ∧ a ≤ c ∧ b ≤ c
theorem C_len {a b c : Nat} (h : good a b c) : (C a b c).length ≤ 8 := by
  obtain ⟨h1, h2, h3⟩ := h
  have := dec_len2 (n := a) (by omega); have := dec_len2 (n := b) (by omega); have := dec_len2 (n := c) (by omega)
  unfold C; simp; omega
theorem C_47 (a b c : Nat) : pieces 47 [] (C a b c) = [Lib.decDigits a ++ 45 :: Lib.decDigits b, Lib.decDigits c] := by
  have e : C a b c = (Lib.decDigits a ++ 45 :: Lib.decDigits b) ++ 47 :: Lib.decDigits c := by unfold C; simp
  have hn : (47 : UInt8) ∉ Lib.decDigits a ++ 45 :: Lib.decDigits b := by
    intro h
    rcases List.mem_append.1 h with h | h
    · exact n47 a h
    · rcases List.mem_cons.1 h with h | h
      · exact absurd h (by decide)
      · exact n47 b h
  rw [e, pieces_at _ _ hn, pieces_none _ (n47 c)]; rfl
theorem C_58 (a b c : Nat) : (58 : UInt8) ∉ C a b c := by
  unfold C
  intro h
  rcases List.mem_append.1 h with h | h
  · exact n58 a h
  rcases List.mem_cons.1 h with h | h
  · exact absurd h (by decide)
  rcases List.mem_append.1 h with h | h
  · exact n58 b h
  rcases List.mem_cons.1 h with h | h
  · exact absurd h (by decide)
  · exact n58 c h
theorem two_45 (a b : Nat) : pieces 45 [] (Lib.decDigits a ++ 45 :: Lib.decDigits b) = [Lib.decDigits a, Lib.decDigits b] := by
  rw [pieces_at _ _ (n45 a), pieces_none _ (n45 b)]; rfl
theorem two_47 (a b : Nat) : pieces 47 [] (Lib.decDigits a ++ 47 :: Lib.decDigits b) = [Lib.decDigits a, Lib.decDigits b] := by
  rw [pieces_at _ _ (n47 a), pieces_none _ (n47 b)]; rfl
theorem good_dec {a b c : Nat} (h : good a b c) : decide ((1 ≤ (c : Int) ∧ (c : Int) ≤ 10) ∧ (0 ≤ (a : Int) ∧ (a : Int) ≤ (c : Int)) ∧ (0 ≤ (b : Int) ∧ (b : Int) ≤ (c : Int))) = true := by
  obtain ⟨h1, h2, h3⟩ := h
  exact decide_eq_true (by omega)
theorem of_good {a b c : Int} (h : (1 ≤ c ∧ c ≤ 10) ∧ (0 ≤ a ∧ a ≤ c) ∧ (0 ≤ b ∧ b ≤ c)) : good a.toNat b.toNat c.toNat ∧ ((a.toNat : Nat) : Int) = a ∧ ((b.toNat : Nat) : Int) = b ∧ ((c.toNat : Nat) : Int) = c := by
  unfold good; omega
theorem len_ne {α : Type} {l : List α} (h : l.length ≠ 2) : ((l.length : Int) != 2) = true := bne_iff_ne.2 (by omega)
theorem len_two {α : Type} {l : List α} (h : l.length = 2) : ((l.length : Int) != 2) = false := by rw [h]; rfl
theorem two_of {α : Type} {l : List α} (h : l.length = 2) : ∃ x y, l = [x, y] := by
  match l, h with
  | [x, y], _ => exact ⟨x, y, rfl⟩
theorem pre {α β : Type} {f : Option α} {a : α} {F : Nat → α → Option β} {r : β} (h : f = some a) (hE : Mth.Evn (fun k => F k a) r) : Mth.Evn (fun k => f.bind (F k)) r := by
  subst h; exact hE
/-! The reference model. -/
theorem cs_yes {t : ByteArray} {a b c : Nat} (h : good a b c) (ht : t.data.toList = C a b c) : Mth.Evn (fun k => spec_cnParse.f k t) ((a : Int), (b : Int), (c : Int), true) := by
  have hl := size_list t
  have hz := C_len h
  rw [ht] at hl
  have h8 : ¬ (t.size : Int) > 8 := by omega
  have s47 := l1Split_ev (t := t) (by omega) 47
  rw [ht, C_47] at s47
  unfold spec_cnParse.f
  refine s47.bind ?_
  refine Mth.Evn.congr (fun k => (if_neg h8)) ?_
  refine Mth.Evn.step (fun k => by simp only [spec_cnParse.j0]; rw [if_neg (by rw [len_two (by simp)]; simp), if_pos (by simp)]) ?_
  have s45 := l1Split_ev (t := mkB (Lib.decDigits a ++ 45 :: Lib.decDigits b)) (by
    rw [mkB_size]
    obtain ⟨h1, h2, h3⟩ := h
    have := dec_len2 (n := a) (by omega); have := dec_len2 (n := b) (by omega)
    simp; omega) 45
  rw [mkB_list, two_45] at s45
  obtain ⟨⟨g1, g2⟩, g3, g4⟩ := id h
  refine s45.bind ?_
  refine Mth.Evn.congr (fun k => (if_pos (by simp)).trans (if_pos (by simp))) ?_
  refine (read_yes (n := a) (by omega)).bind ?_
  refine Mth.Evn.congr (fun k => if_pos (by simp)) ?_
  refine (read_yes (n := b) (by omega)).bind ?_
  refine Mth.Evn.congr (fun k => if_pos (by simp)) ?_
  refine (read_yes (n := c) (by omega)).bind ?_
  rw [cnGood_eq, good_dec h]
  simp only [Option.bind_some]
  exact Mth.Evn.congr (fun k => if_pos trivial) (Mth.Evn.now _)
theorem cs_no {t : ByteArray} (hz : t.size ≤ 2000000) (hn : ∀ a b c : Nat, good a b c → t.data.toList ≠ C a b c) : Mth.Evn (fun k => spec_cnParse.f k t) (0, 0, 0, false) := by
  have jt : ∀ L, Mth.Evn (fun k => spec_cnParse.j0 k L true) (0, 0, 0, false) := fun L => (Mth.Evn.now _).step fun k => by simp only [spec_cnParse.j0]; rw [if_pos trivial]
  unfold spec_cnParse.f
  refine (l1Split_ev (t := t) hz 47).bind ?_
  by_cases h8 : (t.size : Int) > 8
  · exact Mth.Evn.congr (fun k => if_pos h8) (jt _)
  refine Mth.Evn.congr (fun k => if_neg h8) ?_
  by_cases hl : (pieces 47 [] t.data.toList).length = 2
  · obtain ⟨p, q, hp⟩ := two_of hl
    have hpq := pieces_two hp
    have hsz := size_list t
    rw [hpq] at hsz
    simp at hsz
    rw [hp]
    refine Mth.Evn.step (fun k => by simp only [spec_cnParse.j0]; rw [if_neg (by rw [len_two (by simp)]; simp), if_pos (by simp)]) ?_
    refine (l1Split_ev (t := mkB p) (by rw [mkB_size]; omega) 45).bind ?_
    rw [mkB_list]
    by_cases hl2 : (pieces 45 [] p).length = 2
    · obtain ⟨u, v, hu⟩ := two_of hl2
      have huv := pieces_two hu
      rw [hu]
      refine Mth.Evn.congr (fun k => (if_pos (by simp)).trans (if_pos (by simp))) ?_
      obtain ⟨ra, ha, ia⟩ := read_back (mkB u)
      obtain ⟨rb, hb, ib⟩ := read_back (mkB v)
      obtain ⟨rc, hc, ic⟩ := read_back (mkB q)
      refine ha.bind ?_
      refine Mth.Evn.congr (fun k => if_pos (by simp)) ?_
      refine hb.bind ?_
      refine Mth.Evn.congr (fun k => if_pos (by simp)) ?_
      refine hc.bind ?_
      rw [cnGood_eq]
      simp only [Option.bind_some]
      refine Mth.Evn.congr (fun k => if_neg ?_) (Mth.Evn.now _)
      intro hd
      have hg := of_decide_eq_true hd
      have ea := ia (by omega); have eb := ib (by omega); have ec := ic (by omega)
      refine hn _ _ _ (of_good hg).1 ?_
      rw [hpq, huv]
      unfold C
      rw [ea, eb, ec, mkB_list, mkB_list, mkB_list]; simp
    · refine Mth.Evn.congr (fun k => if_neg ?_) (Mth.Evn.now _)
      rw [List.length_map]; omega
  · refine Mth.Evn.congr (fun k => ?_) (jt ((pieces 47 [] t.data.toList).map mkB))
    rw [len_ne (by rw [List.length_map]; exact hl)]
/-- A hidden chain's text. -/
def H (a b c d e f : Nat) : List UInt8 := C a b c ++ 58 :: C d e f
theorem H_58 (a b c d e f : Nat) : pieces 58 [] (H a b c d e f) = [C a b c, C d e f] := by
  unfold H
  rw [pieces_at _ _ (C_58 a b c), pieces_none _ (C_58 d e f)]; rfl
theorem H_len {a b c d e f : Nat} (h : good a b c) (h' : good d e f) : (H a b c d e f).length ≤ 17 := by
  have := C_len h; have := C_len h'
  unfold H; simp; omega
theorem hgood_dec {a b c d e g : Nat} (h : good a b c) (h' : good d e g) : decide (((1 ≤ (c : Int) ∧ (c : Int) ≤ 10) ∧ (0 ≤ (a : Int) ∧ (a : Int) ≤ (c : Int)) ∧ (0 ≤ (b : Int) ∧ (b : Int) ≤ (c : Int))) ∧ (1 ≤ (g : Int) ∧ (g : Int) ≤ 10) ∧ (0 ≤ (d : Int) ∧ (d : Int) ≤ (g : Int)) ∧ (0 ≤ (e : Int) ∧ (e : Int) ≤ (g : Int))) = true :=
  decide_eq_true ⟨of_decide_eq_true (good_dec h), of_decide_eq_true (good_dec h')⟩
theorem hs_yes {t : ByteArray} {a b c d e f : Nat} (h : good a b c) (h' : good d e f) (ht : t.data.toList = H a b c d e f) : Mth.Evn (fun k => spec_ParseHidden.f k t) ((a : Int), (b : Int), (c : Int), (d : Int), (e : Int), (f : Int), true) := by
  have hl := size_list t
  have hz := H_len h h'
  rw [ht] at hl
  have h17 : ¬ (t.size : Int) > 17 := by omega
  have s58 := l1Split_ev (t := t) (by omega) 58
  rw [ht, H_58] at s58
  have main : Mth.Evn (fun k => spec_hdParse.f k t) ((a : Int), (b : Int), (c : Int), (d : Int), (e : Int), (f : Int), true) := by
    unfold spec_hdParse.f
    refine s58.bind ?_
    refine Mth.Evn.congr (fun k => (if_neg h17)) ?_
    refine Mth.Evn.step (fun k => by simp only [spec_hdParse.j0]; rw [if_neg (by rw [len_two (by simp)]; simp), if_pos (by simp)]) ?_
    refine (cs_yes (t := mkB (C a b c)) h rfl).bind ?_
    refine Mth.Evn.congr (fun k => if_pos (by simp)) ?_
    refine (cs_yes (t := mkB (C d e f)) h' rfl).bind ?_
    refine Mth.Evn.congr (fun k => (if_pos rfl).trans (if_pos rfl)) ?_
    rw [hdGood_eq, hgood_dec h h']
    simp only [Option.bind_some]
    exact Mth.Evn.congr (fun k => if_pos trivial) (Mth.Evn.now _)
  unfold spec_ParseHidden.f
  exact main.bind (Mth.Evn.now _)
theorem hs_no {t : ByteArray} (hz : t.size ≤ 2000000) (hn : ∀ a b c d e f : Nat, good a b c → good d e f → t.data.toList ≠ H a b c d e f) : Mth.Evn (fun k => spec_ParseHidden.f k t) (0, 0, 0, 0, 0, 0, false) := by
  have jt : ∀ L, Mth.Evn (fun k => spec_hdParse.j0 k L true) (0, 0, 0, 0, 0, 0, false) := fun L => (Mth.Evn.now _).step fun k => by simp only [spec_hdParse.j0]; rw [if_pos trivial]
  have main : Mth.Evn (fun k => spec_hdParse.f k t) (0, 0, 0, 0, 0, 0, false) := by
    unfold spec_hdParse.f
    refine (l1Split_ev (t := t) hz 58).bind ?_
    by_cases h8 : (t.size : Int) > 17
    · exact Mth.Evn.congr (fun k => if_pos h8) (jt _)
    refine Mth.Evn.congr (fun k => if_neg h8) ?_
    by_cases hl : (pieces 58 [] t.data.toList).length = 2
    · obtain ⟨p, q, hp⟩ := two_of hl
      have hpq := pieces_two hp
      have hsz := size_list t
      rw [hpq] at hsz
      simp at hsz
      rw [hp]
      refine Mth.Evn.step (fun k => by simp only [spec_hdParse.j0]; rw [if_neg (by rw [len_two (by simp)]; simp), if_pos (by simp)]) ?_
      by_cases c1 : ∃ a b c, good a b c ∧ p = C a b c
      · obtain ⟨a, b, c, hg, rfl⟩ := c1
        refine (cs_yes (t := mkB (C a b c)) hg rfl).bind ?_
        refine Mth.Evn.congr (fun k => if_pos (by simp)) ?_
        by_cases c2 : ∃ d e f, good d e f ∧ q = C d e f
        · obtain ⟨d, e, f, hg', rfl⟩ := c2
          exact absurd hpq (hn a b c d e f hg hg')
        · refine (cs_no (t := mkB q) (by rw [mkB_size]; omega) (fun d e f hg' e2 => c2 ⟨d, e, f, hg', e2⟩)).bind ?_
          exact Mth.Evn.congr (fun k => (if_pos rfl).trans (if_neg (by simp))) (Mth.Evn.now _)
      · refine (cs_no (t := mkB p) (by rw [mkB_size]; omega) (fun a b c hg e2 => c1 ⟨a, b, c, hg, e2⟩)).bind ?_
        refine Mth.Evn.congr (fun k => if_pos (by simp)) ?_
        by_cases c2 : ∃ d e f, good d e f ∧ q = C d e f
        · obtain ⟨d, e, f, hg', rfl⟩ := c2
          refine (cs_yes (t := mkB (C d e f)) hg' rfl).bind ?_
          exact Mth.Evn.congr (fun k => if_neg (by simp)) (Mth.Evn.now _)
        · refine (cs_no (t := mkB q) (by rw [mkB_size]; omega) (fun d e f hg' e2 => c2 ⟨d, e, f, hg', e2⟩)).bind ?_
          exact Mth.Evn.congr (fun k => if_neg (by simp)) (Mth.Evn.now _)
    · refine Mth.Evn.congr (fun k => ?_) (jt ((pieces 58 [] t.data.toList).map mkB))
      rw [len_ne (by rw [List.length_map]; exact hl)]
  unfold spec_ParseHidden.f
  exact main.bind (Mth.Evn.now _)
/-! The program. -/
theorem pair_yes {t : ByteArray} {c : UInt8} {p q : Nat} (ht : t.size ≤ 2000000) (hp : pieces c [] t.data.toList = [Lib.decDigits p, Lib.decDigits q]) (h1 : p ≤ 100) (h2 : q ≤ 100) : Mth.Evn (fun k => impl_readPair.f k t (sepB c)) ((p : Int), (q : Int), true) := by
  have h := nums_yes (ns := [p, q]) ht hp (fun n hn => by
    rcases List.mem_cons.1 hn with rfl | hn
    · exact h1
    · rw [List.mem_singleton] at hn; subst hn; exact h2)
  unfold impl_readPair.f
  refine h.bind ?_
  exact Mth.Evn.congr (fun k => (if_pos rfl).trans ((if_pos (by simp)).trans ((if_pos (by simp)).trans (if_pos (by simp))))) (Mth.Evn.now _)
theorem pair_back {t : ByteArray} (ht : t.size ≤ 2000000) (c : UInt8) : ∃ (x y : Int) (b : Bool), Mth.Evn (fun k => impl_readPair.f k t (sepB c)) (x, y, b) ∧ (b = true → ∃ p q : Nat, x = p ∧ y = q ∧ t.data.toList = Lib.decDigits p ++ c :: Lib.decDigits q) := by
  obtain ⟨xs, b, h, hb⟩ := nums_back ht c
  unfold impl_readPair.f
  cases b with
  | false => exact ⟨0, 0, false, h.bind (Mth.Evn.congr (fun k => if_neg (by simp)) (Mth.Evn.now _)), fun e => by cases e⟩
  | true =>
    by_cases hl : xs.length = 2
    · obtain ⟨_, ns, e1, e2⟩ := hb rfl
      have hns : ns.length = 2 := by rw [e1, List.length_map] at hl; exact hl
      obtain ⟨p, q, rfl⟩ := two_of hns
      refine ⟨rd xs 0, rd xs 1, true, h.bind (Mth.Evn.congr (fun k => (if_pos rfl).trans ((if_pos (by dsimp only; omega)).trans ((if_pos (by dsimp only; omega)).trans (if_pos (by dsimp only; omega))))) (Mth.Evn.now _)), fun _ => ⟨p, q, ?_, ?_, pieces_two e2⟩⟩
      · rw [e1]; rfl
      · rw [e1]; rfl
    · exact ⟨0, 0, false, h.bind (Mth.Evn.congr (fun k => (if_pos rfl).trans (if_neg (by dsimp only; omega))) (Mth.Evn.now _)), fun e => by cases e⟩
theorem itoa_eq (n : Nat) (h : n ≤ 10) : strconv_Itoa.f (n : Int) = some (mkB (Lib.decDigits n)) := by
  unfold strconv_Itoa.f
  rw [if_pos (by omega), Lib.itoa, if_neg (by omega), Int.toNat_natCast]; rfl
theorem chainText_eq {a b c : Nat} (h : good a b c) : impl_chainText.f (a : Int) (b : Int) (c : Int) = some (mkB (C a b c)) := by
  obtain ⟨h1, h2, h3⟩ := h
  have la := dec_len2 (n := a) (by omega); have lb := dec_len2 (n := b) (by omega); have lc := dec_len2 (n := c) (by omega)
  have sa : (mkB (Lib.decDigits a)).size ≤ 2 := la
  have sb : (mkB (Lib.decDigits b)).size ≤ 2 := lb
  have sc : (mkB (Lib.decDigits c)).size ≤ 2 := lc
  have z45 : (⟨#[45]⟩ : ByteArray).size = 1 := rfl
  have z47 : (⟨#[47]⟩ : ByteArray).size = 1 := rfl
  unfold impl_chainText.f
  rw [itoa_eq a (by omega), itoa_eq b (by omega), itoa_eq c (by omega)]
  simp only [Option.bind_some]
  rw [if_pos (by omega), if_pos (by rw [ByteArray.size_append]; omega), if_pos (by rw [ByteArray.size_append, ByteArray.size_append]; omega), if_pos (by rw [ByteArray.size_append, ByteArray.size_append, ByteArray.size_append]; omega)]
  refine congrArg some (bytes_eq ?_)
  rw [app_list, app_list, app_list, app_list]
  unfold C
  show Lib.decDigits a ++ [45] ++ Lib.decDigits b ++ [47] ++ Lib.decDigits c = Lib.decDigits a ++ 45 :: (Lib.decDigits b ++ 47 :: Lib.decDigits c)
  simp
theorem cut_eq {t : ByteArray} (ht : t.size ≤ 2000000) (c : UInt8) {x y : List UInt8} {f : Bool} (h : Lib.cut t.data.toList [c] = (x, y, f)) : strings_Cut.f t (sepB c) = some (mkB x, mkB y, f) := by
  unfold strings_Cut.f
  rw [if_pos (by omega)]
  show some ((⟨(Lib.cut t.data.toList [c]).1.toArray⟩ : ByteArray), (⟨(Lib.cut t.data.toList [c]).2.1.toArray⟩ : ByteArray), (Lib.cut t.data.toList [c]).2.2) = _
  rw [h]; rfl
theorem ci_yes {t : ByteArray} {a b c : Nat} (h : good a b c) (ht : t.data.toList = C a b c) : Mth.Evn (fun k => impl_ParseChain.f k t) ((a : Int), (b : Int), (c : Int), true) := by
  have hl := size_list t
  have hz := C_len h
  rw [ht] at hl
  obtain ⟨⟨g1, g2⟩, g3, g4⟩ := id h
  have la := dec_len2 (n := a) (by omega); have lb := dec_len2 (n := b) (by omega); have lc := dec_len2 (n := c) (by omega)
  have hcut := cut_eq (t := t) (by omega) 45 (x := Lib.decDigits a) (y := Lib.decDigits b ++ 47 :: Lib.decDigits c) (f := true) (by rw [ht]; exact cut1 (n45 a))
  have h1 := nums_yes (t := mkB (Lib.decDigits a)) (c := 47) (ns := [a]) (by rw [mkB_size]; omega) (by rw [mkB_list, pieces_none _ (n47 a)]; rfl) (fun n hn => by rw [List.mem_singleton] at hn; omega)
  have h2 := pair_yes (t := mkB (Lib.decDigits b ++ 47 :: Lib.decDigits c)) (c := 47) (p := b) (q := c) (by rw [mkB_size]; simp; omega) (by rw [mkB_list, two_47]) (by omega) (by omega)
  have hj : Mth.Evn (fun k => impl_ParseChain.j0 k t [(a : Int)] (b : Int) (c : Int) false) ((a : Int), (b : Int), (c : Int), true) := by
    refine Mth.Evn.step (fun k => by simp only [impl_ParseChain.j0]; rw [if_neg (by simp), if_pos (by simp)]) ?_
    refine pre (IsChain_eq _ _ _) ?_
    refine Mth.Evn.congr (fun k => if_pos (good_dec h)) ?_
    rw [show rd [(a : Int)] 0 = (a : Int) from rfl, chainText_eq h]
    simp only [Option.bind_some]
    exact Mth.Evn.congr (fun k => if_pos (by rw [dtl, dtl, ht]; rfl)) (Mth.Evn.now _)
  unfold impl_ParseChain.f
  refine pre hcut ?_
  refine h1.bind ?_
  refine h2.bind ?_
  exact Mth.Evn.congr (fun k => if_pos rfl) hj
theorem ci_no {t : ByteArray} (hz : t.size ≤ 2000000) (hn : ∀ a b c : Nat, good a b c → t.data.toList ≠ C a b c) : Mth.Evn (fun k => impl_ParseChain.f k t) (0, 0, 0, false) := by
  have jt : ∀ t L x y, Mth.Evn (fun k => impl_ParseChain.j0 k t L x y true) (0, 0, 0, false) := fun t L x y => (Mth.Evn.now _).step fun k => by simp only [impl_ParseChain.j0]; rw [if_pos trivial]
  have hsz := size_list t
  cases hc : Lib.cut t.data.toList [45] with
  | mk x yf =>
    obtain ⟨y, f⟩ := yf
    have hcut := cut_eq hz 45 hc
    have hlen : x.length ≤ t.size ∧ y.length ≤ t.size := by
      rcases parts 45 t.data.toList with hp | ⟨x', y', hp, hx⟩
      · rw [cut0 hp] at hc
        obtain ⟨rfl, h2⟩ := Prod.mk.inj hc
        obtain ⟨rfl, _⟩ := Prod.mk.inj h2
        exact ⟨by omega, by simp⟩
      · rw [hp, cut1 hx] at hc
        obtain ⟨rfl, h2⟩ := Prod.mk.inj hc
        obtain ⟨rfl, _⟩ := Prod.mk.inj h2
        rw [hp] at hsz
        simp at hsz; omega
    obtain ⟨xs, b1, e1, i1⟩ := nums_back (t := mkB x) (by rw [mkB_size]; omega) 47
    obtain ⟨p, q, b2, e2, i2⟩ := pair_back (t := mkB y) (by rw [mkB_size]; omega) 47
    unfold impl_ParseChain.f
    refine pre hcut ?_
    refine e1.bind ?_
    refine e2.bind ?_
    cases b1 with
    | false => exact Mth.Evn.congr (fun k => if_neg (by simp)) (jt _ _ _ _)
    | true =>
      refine Mth.Evn.congr (fun k => if_pos rfl) ?_
      cases b2 with
      | false => exact jt _ _ _ _
      | true =>
        obtain ⟨hx1, -⟩ := i1 rfl
        show Mth.Evn (fun k => impl_ParseChain.j0 k t xs p q false) (0, 0, 0, false)
        refine Mth.Evn.step (fun k => by simp only [impl_ParseChain.j0]; rw [if_neg (by simp), if_pos (by omega)]) ?_
        refine pre (IsChain_eq _ _ _) ?_
        by_cases hg : (1 ≤ q ∧ q ≤ 10) ∧ (0 ≤ rd xs 0 ∧ rd xs 0 ≤ q) ∧ (0 ≤ p ∧ p ≤ q)
        · refine Mth.Evn.congr (fun k => if_pos (decide_eq_true hg)) ?_
          obtain ⟨hg1, ea, eb, ec⟩ := of_good hg
          have ht := chainText_eq hg1
          rw [ea, eb, ec] at ht
          rw [ht]
          simp only [Option.bind_some]
          refine Mth.Evn.congr (fun k => if_neg ?_) (Mth.Evn.now _)
          rw [dtl, dtl, mkB_list]
          exact fun e => hn _ _ _ hg1 e.symm
        · exact Mth.Evn.congr (fun k => if_neg (by rw [decide_eq_false hg]; simp)) (Mth.Evn.now _)
theorem hi_yes {t : ByteArray} {a b c d e f : Nat} (h : good a b c) (h' : good d e f) (ht : t.data.toList = H a b c d e f) : Mth.Evn (fun k => impl_ParseHidden.f k t) ((a : Int), (b : Int), (c : Int), (d : Int), (e : Int), (f : Int), true) := by
  have hl := size_list t
  have hz := H_len h h'
  have hz1 := C_len h; have hz2 := C_len h'
  rw [ht] at hl
  obtain ⟨⟨g1, g2⟩, g3, g4⟩ := id h'
  have ld := dec_len2 (n := d) (by omega); have le := dec_len2 (n := e) (by omega); have lf := dec_len2 (n := f) (by omega)
  have hcut := cut_eq (t := t) (by omega) 58 (x := C a b c) (y := C d e f) (f := true) (by rw [ht]; exact cut1 (C_58 a b c))
  have e47 : C d e f = (Lib.decDigits d ++ 45 :: Lib.decDigits e) ++ 47 :: Lib.decDigits f := by unfold C; simp
  have hn : (47 : UInt8) ∉ Lib.decDigits d ++ 45 :: Lib.decDigits e := by
    intro h
    rcases List.mem_append.1 h with h | h
    · exact n47 d h
    · rcases List.mem_cons.1 h with h | h
      · exact absurd h (by decide)
      · exact n47 e h
  have hcut2 := cut_eq (t := mkB (C d e f)) (by rw [mkB_size]; omega) 47 (x := Lib.decDigits d ++ 45 :: Lib.decDigits e) (y := Lib.decDigits f) (f := true) (by rw [mkB_list, e47]; exact cut1 hn)
  have h1 := ci_yes (t := mkB (C a b c)) h rfl
  have h2 := pair_yes (t := mkB (Lib.decDigits d ++ 45 :: Lib.decDigits e)) (c := 45) (p := d) (q := e) (by rw [mkB_size]; simp; omega) (by rw [mkB_list, two_45]) (by omega) (by omega)
  have h3 := nums_yes (t := mkB (Lib.decDigits f)) (c := 44) (ns := [f]) (by rw [mkB_size]; omega) (by rw [mkB_list, pieces_none _ (n44 f)]; rfl) (fun n hn => by rw [List.mem_singleton] at hn; omega)
  have hj : Mth.Evn (fun k => impl_ParseHidden.j0 k (d : Int) (e : Int) [(f : Int)] false (a : Int) (b : Int) (c : Int)) ((a : Int), (b : Int), (c : Int), (d : Int), (e : Int), (f : Int), true) := by
    refine Mth.Evn.step (fun k => by simp only [impl_ParseHidden.j0]; rw [if_neg (by simp), if_pos (by simp)]) ?_
    refine pre (IsHidden_eq _ _ _ _ _ _) ?_
    rw [show rd [(f : Int)] 0 = (f : Int) from rfl]
    exact Mth.Evn.congr (fun k => if_pos (hgood_dec h h')) (Mth.Evn.now _)
  unfold impl_ParseHidden.f
  refine pre hcut ?_
  refine pre hcut2 ?_
  refine h1.bind ?_
  refine h2.bind ?_
  refine h3.bind ?_
  exact Mth.Evn.congr (fun k => (if_pos rfl).trans ((if_pos rfl).trans (if_pos rfl))) hj
theorem hi_no {t : ByteArray} (hz : t.size ≤ 2000000) (hn : ∀ a b c d e f : Nat, good a b c → good d e f → t.data.toList ≠ H a b c d e f) : Mth.Evn (fun k => impl_ParseHidden.f k t) (0, 0, 0, 0, 0, 0, false) := by
  have jt : ∀ x y L p q r, Mth.Evn (fun k => impl_ParseHidden.j0 k x y L true p q r) (0, 0, 0, 0, 0, 0, false) := fun x y L p q r => (Mth.Evn.now _).step fun k => by simp only [impl_ParseHidden.j0]; rw [if_pos trivial]
  have hsz := size_list t
  cases hc : Lib.cut t.data.toList [58] with
  | mk x yf =>
    obtain ⟨y, g⟩ := yf
    have hcut := cut_eq hz 58 hc
    have hlen : (x.length ≤ t.size ∧ y.length ≤ t.size) ∧ (t.data.toList = x ++ 58 :: y ∨ y = []) := by
      rcases parts 58 t.data.toList with hp | ⟨x', y', hp, hx⟩
      · rw [cut0 hp] at hc
        obtain ⟨rfl, h2⟩ := Prod.mk.inj hc
        obtain ⟨rfl, _⟩ := Prod.mk.inj h2
        exact ⟨⟨by omega, by simp⟩, .inr rfl⟩
      · rw [hp, cut1 hx] at hc
        obtain ⟨rfl, h2⟩ := Prod.mk.inj hc
        obtain ⟨rfl, _⟩ := Prod.mk.inj h2
        refine ⟨?_, .inl hp⟩
        rw [hp] at hsz
        simp at hsz; omega
    obtain ⟨hl1, hs1⟩ := hlen
    cases hc2 : Lib.cut (mkB y).data.toList [47] with
    | mk u vf =>
      obtain ⟨v, g2⟩ := vf
      have hcut2 := cut_eq (t := mkB y) (by rw [mkB_size]; omega) 47 hc2
      rw [mkB_list] at hc2
      have hlen2 : (u.length ≤ t.size ∧ v.length ≤ t.size) ∧ (y = u ++ 47 :: v ∨ v = []) := by
        rcases parts 47 y with hp | ⟨x', y', hp, hx⟩
        · rw [cut0 hp] at hc2
          obtain ⟨rfl, h2⟩ := Prod.mk.inj hc2
          obtain ⟨rfl, _⟩ := Prod.mk.inj h2
          exact ⟨⟨by omega, by simp⟩, .inr rfl⟩
        · rw [hp, cut1 hx] at hc2
          obtain ⟨rfl, h2⟩ := Prod.mk.inj hc2
          obtain ⟨rfl, _⟩ := Prod.mk.inj h2
          refine ⟨?_, .inl hp⟩
          have := hl1.2
          rw [hp] at this
          simp at this; omega
      obtain ⟨hl2, hs2⟩ := hlen2
      have hch : ∃ r : Int × Int × Int × Bool, Mth.Evn (fun k => impl_ParseChain.f k (mkB x)) r ∧ (r.2.2.2 = true → ∃ a b c : Nat, good a b c ∧ x = C a b c) := by
        by_cases c1 : ∃ a b c, good a b c ∧ x = C a b c
        · obtain ⟨a, b, c, hg, rfl⟩ := c1
          exact ⟨_, ci_yes (t := mkB (C a b c)) hg rfl, fun _ => ⟨a, b, c, hg, rfl⟩⟩
        · exact ⟨_, ci_no (t := mkB x) (by rw [mkB_size]; omega) (fun a b c hg e => c1 ⟨a, b, c, hg, e⟩), fun e => by cases e⟩
      obtain ⟨⟨r1, r2, r3, b0⟩, h0, i0⟩ := hch
      obtain ⟨p, q, b1, e1, i1⟩ := pair_back (t := mkB u) (by rw [mkB_size]; omega) 45
      obtain ⟨zs, b2, e2, i2⟩ := nums_back (t := mkB v) (by rw [mkB_size]; omega) 44
      unfold impl_ParseHidden.f
      refine pre hcut ?_
      refine pre hcut2 ?_
      refine h0.bind ?_
      refine e1.bind ?_
      refine e2.bind ?_
      cases b0 with
      | false => exact Mth.Evn.congr (fun k => if_neg (by simp)) (jt _ _ _ _ _ _)
      | true =>
      cases b1 with
      | false => exact Mth.Evn.congr (fun k => (if_pos rfl).trans (if_neg (by simp))) (jt _ _ _ _ _ _)
      | true =>
      cases b2 with
      | false => exact Mth.Evn.congr (fun k => (if_pos rfl).trans ((if_pos rfl).trans (if_neg (by simp)))) (jt _ _ _ _ _ _)
      | true =>
        refine Mth.Evn.congr (fun k => (if_pos rfl).trans ((if_pos rfl).trans (if_pos rfl))) ?_
        obtain ⟨hz1, ns, en, ep⟩ := i2 rfl
        show Mth.Evn (fun k => impl_ParseHidden.j0 k p q zs ((zs.length : Int) != 1) r1 r2 r3) (0, 0, 0, 0, 0, 0, false)
        by_cases hl : zs.length = 1
        · have hne : ((zs.length : Int) != 1) = false := by rw [hl]; rfl
          rw [hne]
          refine Mth.Evn.step (fun k => by simp only [impl_ParseHidden.j0]; rw [if_neg (by simp), if_pos (by omega)]) ?_
          refine pre (IsHidden_eq _ _ _ _ _ _) ?_
          refine Mth.Evn.congr (fun k => if_neg ?_) (Mth.Evn.now _)
          intro hd
          have hg := (of_decide_eq_true hd).2
          obtain ⟨a, b, c, hg0, ex⟩ := i0 rfl
          obtain ⟨d, e, rfl, rfl, eu⟩ := i1 rfl
          have hns : ns.length = 1 := by rw [en, List.length_map] at hl; exact hl
          obtain ⟨f, rfl⟩ := List.length_eq_one_iff.1 hns
          have ev := pieces_one ep
          rw [mkB_list] at eu ev
          rw [en, show rd (List.map (fun n : Nat => (n : Int)) [f]) 0 = (f : Int) from rfl] at hg
          have hg2 : good d e f := by unfold good; omega
          have hv : v ≠ [] := by rw [ev]; exact dec_ne f
          have hy : y = u ++ 47 :: v := hs2.resolve_right hv
          have hy2 : y ≠ [] := by rw [hy]; simp
          have htx := hs1.resolve_right hy2
          refine hn a b c d e f hg0 hg2 ?_
          rw [htx, hy, ex, eu, ev]
          unfold H C
          simp
        · have hne : ((zs.length : Int) != 1) = true := bne_iff_ne.2 (by omega)
          rw [hne]
          exact jt _ _ _ _ _ _
theorem holds (a0 : ByteArray) (w0 : a0.size ≤ 140737488351232) : ∃ k, laws_FnExactParseHidden.f k a0 = some true := by
  have hE : Mth.Evn (fun k => laws_FnExactParseHidden.f k a0) true := by
    unfold laws_FnExactParseHidden.f
    by_cases hz : (a0.size : Int) > 1048576
    · exact Mth.Evn.congr (fun k => if_pos hz) (Mth.Evn.now _)
    · refine Mth.Evn.congr (fun k => if_neg hz) ?_
      have core : ∃ r : Int × Int × Int × Int × Int × Int × Bool, Mth.Evn (fun k => spec_ParseHidden.f k a0) r ∧ Mth.Evn (fun k => impl_ParseHidden.f k a0) r := by
        by_cases hh : ∃ a b c d e f : Nat, (good a b c ∧ good d e f) ∧ a0.data.toList = H a b c d e f
        · obtain ⟨a, b, c, d, e, f, ⟨h1, h2⟩, h3⟩ := hh
          exact ⟨_, hs_yes h1 h2 h3, hi_yes h1 h2 h3⟩
        · have hn : ∀ a b c d e f : Nat, good a b c → good d e f → a0.data.toList ≠ H a b c d e f := fun a b c d e f h1 h2 h3 => hh ⟨a, b, c, d, e, f, ⟨h1, h2⟩, h3⟩
          exact ⟨_, hs_no (by omega) hn, hi_no (by omega) hn⟩
      obtain ⟨⟨a, b, c, d, e, f, g⟩, hs, hi⟩ := core
      refine hs.bind ?_
      refine hi.bind ?_
      have he : laws_eqHidden.f a b c d e f a b c d e f = some true := by
        unfold laws_eqHidden.f laws_eqChain.f
        simp
      dsimp only
      rw [he]
      simp only [Option.bind_some]
      exact Mth.Evn.congr (fun k => (if_pos trivial).trans (if_neg (by simp))) (Mth.Evn.now _)
  exact hE.get
end Go.Proofs.YtfpbpiodoajpiaaDoor.PureFnExactParseHidden
