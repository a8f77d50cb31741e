/- The pure statement of FnExactParsePuzzle: both sides read just the texts of puzzles. No condition. -/
import Derived.Test.YtmkiponcommmmaaDoorQFnExactParsePuzzlex8
import Derived.Test.YtmkiponcommmmaaDoorMath
import Derived.OpenShut
namespace Go.Proofs.YtmkiponcommmmaaDoor.PureFnExactParsePuzzle
open Go Go.RowKit Go.Proofs.YtmkiponcommmmaaDoor.QFnExactParsePuzzle Go.Proofs.YtmkiponcommmmaaDoorW.PrintWords Go.Proofs.YtmkiponcommmmaaDoorW.PrintLast Go.Proofs.YtmkiponcommmmaaDoorW.PrintMore
set_option linter.unusedVariables false
set_option linter.unusedSimpArgs false

theorem wrap_id {x : Int} (h : -9223372036854775808 ≤ x) (h' : x ≤ 9223372036854775807) : wrap64 x = x := by unfold wrap64; omega
theorem ite_dec (p q : Prop) [Decidable p] [Decidable q] : (if decide p = true then some (decide q) else some false) = some (decide (p ∧ q)) := by
  by_cases h : p <;> simp [h]
theorem some_dec {p q : Prop} [Decidable p] [Decidable q] (h : p ↔ q) : some (decide p) = some (decide q) := by rw [decide_eq_decide.2 h]
theorem l1In_eq (a b c : Int) : spec_l1In.f a b c = some (decide (b ≤ a ∧ a ≤ c)) := by
  unfold spec_l1In.f
  by_cases h : a ≥ b
  · rw [if_pos h]; simp [show b ≤ a from h]
  · rw [if_neg h]; simp; omega
theorem within_eq (a b c : Int) : impl_within.f a b c = some (decide (b ≤ a ∧ a ≤ c)) := by
  unfold impl_within.f
  by_cases h : a ≥ b
  · rw [if_pos h]; simp [show b ≤ a from h]
  · rw [if_neg h]; simp; omega

theorem bytes_eq {a b : ByteArray} (h : a.data.toList = b.data.toList) : a = b := by
  apply ByteArray.ext
  exact Array.toList_inj.1 h
theorem app_list (a b : ByteArray) : (a ++ b).data.toList = a.data.toList ++ b.data.toList := by simp
theorem ext_list (w : ByteArray) (i j : Nat) : (w.extract i j).data.toList = (w.data.toList.take j).drop i := by
  rw [ByteArray.data_extract]
  simp [Array.toList_extract, List.extract_eq_take_drop, List.drop_take]
theorem occ_at {x y : List UInt8} {c : UInt8} : Lib.occAt (x ++ c :: y) [c] x.length = true := by
  unfold Lib.occAt
  rw [List.drop_left]
  simp [List.isPrefixOf]
theorem occ_not {s : List UInt8} {c : UInt8} {j : Nat} (h : s[j]? ≠ some c) : Lib.occAt s [c] j = false := by
  unfold Lib.occAt
  cases hd : s.drop j with
  | nil => rfl
  | cons b r =>
    have hb : s[j]? = some b := by
      have := congrArg List.head? hd
      rwa [List.head?_drop] at this
    have : b ≠ c := fun e => h (by rw [hb, e])
    simp [List.isPrefixOf, this.symm]
theorem idx1 {x y : List UInt8} {c : UInt8} (h : c ∉ x) : Lib.index (x ++ c :: y) [c] = x.length := by
  refine Lib.index_first (by simp) occ_at (fun j hj => occ_not ?_)
  rw [List.getElem?_append_left hj]
  intro e
  exact h (List.mem_of_getElem? e)
theorem idx0 {x : List UInt8} {c : UInt8} (h : c ∉ x) : Lib.index x [c] = -1 := by
  rcases Lib.index_spec x [c] with ⟨h1, _⟩ | ⟨i, h1, h2, h3, _⟩
  · exact h1
  · refine absurd h3 ?_
    rw [occ_not (fun e => h (List.mem_of_getElem? e))]
    simp
theorem cut1 {x y : List UInt8} {c : UInt8} (h : c ∉ x) : Lib.cut (x ++ c :: y) [c] = (x, y, true) := by
  unfold Lib.cut
  rw [idx1 h, if_pos (by omega)]
  simp
theorem cut0 {x : List UInt8} {c : UInt8} (h : c ∉ x) : Lib.cut x [c] = (x, [], false) := by
  unfold Lib.cut
  rw [idx0 h, if_neg (by omega)]
theorem parts (c : UInt8) : ∀ s : List UInt8, (c ∉ s) ∨ ∃ x y, s = x ++ c :: y ∧ c ∉ x
  | [] => .inl (by simp)
  | b :: s => by
    by_cases hb : b = c
    · exact .inr ⟨[], s, by rw [hb]; rfl, by simp⟩
    · rcases parts c s with h | ⟨x, y, h, hx⟩
      · exact .inl (by simp [h, Ne.symm hb])
      · exact .inr ⟨b :: x, y, by rw [h]; rfl, by simp [hx, Ne.symm hb]⟩
def sepB (c : UInt8) : ByteArray := ⟨#[c]⟩
theorem cf0 {s : List UInt8} {c : UInt8} (h : c ∉ s) : ∀ n, Lib.countFrom [c] n s = 0
  | 0 => rfl
  | n + 1 => by rw [Lib.countFrom, idx0 h]; rfl
theorem split0 {t : ByteArray} {c : UInt8} (h : c ∉ t.data.toList) : Lib.splitB (sepB c) 0 (Lib.countB t (sepB c)) t = [t] := by
  have : Lib.countB t (sepB c) = 0 := cf0 h _
  rw [this, Lib.splitB_zero]
def val (n : Nat) (r : List UInt8) : Nat := r.foldl (fun a c => 10 * a + (c.toNat - 48)) n
theorem val_nil (a : Nat) : val a [] = a := by unfold val; rw [List.foldl_nil]
theorem val_cons (a : Nat) (c : UInt8) (r : List UInt8) : val a (c :: r) = val (10 * a + (c.toNat - 48)) r := by unfold val; rw [List.foldl_cons]
def isDig (c : UInt8) : Prop := 48 ≤ c.toNat ∧ c.toNat ≤ 57
theorem dig_back {c : UInt8} (h : isDig c) : UInt8.ofNat (48 + (c.toNat - 48)) = c := by
  obtain ⟨h1, h2⟩ := h
  apply UInt8.toNat_inj.1
  rw [UInt8.toNat_ofNat']
  omega
theorem dec_step {n d : Nat} (hn : 0 < n) (hd : d < 10) : Lib.decDigits (10 * n + d) = Lib.decDigits n ++ [UInt8.ofNat (48 + d)] := by
  rw [Lib.decDigits, dif_neg (by omega), show (10 * n + d) / 10 = n by omega, show (10 * n + d) % 10 = d by omega]
theorem dec_val (r : List UInt8) : ∀ n : Nat, 0 < n → (∀ c, c ∈ r → isDig c) → Lib.decDigits (val n r) = Lib.decDigits n ++ r := by
  induction r with
  | nil => intro n hn h; rw [val_nil, List.append_nil]
  | cons c r ih =>
    intro n hn h
    have hc := h c List.mem_cons_self
    have hlt : c.toNat - 48 < 10 := by have := hc.2; omega
    have e := ih (10 * n + (c.toNat - 48)) (by omega) (fun x hx => h x (List.mem_cons_of_mem _ hx))
    rw [val_cons, e, dec_step hn hlt, dig_back hc, List.append_assoc]
    rfl
/-- A numeral that begins with no needless 0 is its number's own text. -/
theorem canon {c : UInt8} {r : List UInt8} (h : ∀ x, x ∈ c :: r → isDig x) (h0 : c.toNat ≠ 48 ∨ r = []) : Lib.decDigits (val 0 (c :: r)) = c :: r := by
  have hc := h c List.mem_cons_self
  have hlt : c.toNat - 48 < 10 := by have := hc.2; omega
  have e1 : Lib.decDigits (c.toNat - 48) = [c] := by rw [Lib.decDigits, dif_pos hlt, dig_back hc]
  have e0 : 10 * 0 + (c.toNat - 48) = c.toNat - 48 := by omega
  rw [val_cons, e0]
  rcases h0 with h0 | rfl
  · have hp : 0 < c.toNat - 48 := by have := hc.1; omega
    rw [dec_val r _ hp (fun x hx => h x (List.mem_cons_of_mem _ hx)), e1]
    rfl
  · rw [val_nil, e1]
/-- A text's pieces at a sign. -/
def pieces (c : UInt8) : List UInt8 → List UInt8 → List (List UInt8)
  | cur, [] => [cur]
  | cur, b :: s => if b = c then cur :: pieces c [] s else pieces c (cur ++ [b]) s
def mkB (l : List UInt8) : ByteArray := ⟨l.toArray⟩
theorem mkB_list (l : List UInt8) : (mkB l).data.toList = l := rfl
theorem mkB_size (l : List UInt8) : (mkB l).size = l.length := rfl
theorem size_list (t : ByteArray) : t.size = t.data.toList.length := by rw [Array.length_toList]; rfl
theorem mkB_back (t : ByteArray) : mkB t.data.toList = t := bytes_eq rfl
theorem pieces_none {c : UInt8} : ∀ {x : List UInt8} (cur : List UInt8), c ∉ x → pieces c cur x = [cur ++ x]
  | [], cur, _ => by rw [pieces, List.append_nil]
  | b :: x, cur, h => by
    have hb : b ≠ c := fun e => h (by rw [e]; exact List.mem_cons_self)
    rw [pieces, if_neg hb, pieces_none (cur ++ [b]) (fun e => h (List.mem_cons_of_mem _ e)), List.append_assoc]; rfl
theorem pieces_at {c : UInt8} : ∀ {x : List UInt8} (y cur : List UInt8), c ∉ x → pieces c cur (x ++ c :: y) = (cur ++ x) :: pieces c [] y
  | [], y, cur, _ => by rw [List.nil_append, pieces, if_pos rfl, List.append_nil]
  | b :: x, y, cur, h => by
    have hb : b ≠ c := fun e => h (by rw [e]; exact List.mem_cons_self)
    rw [List.cons_append, pieces, if_neg hb, pieces_at y (cur ++ [b]) (fun e => h (List.mem_cons_of_mem _ e)), List.append_assoc]; rfl
theorem pieces_pos {c : UInt8} : ∀ (s cur : List UInt8), 1 ≤ (pieces c cur s).length
  | [], cur => by rw [pieces]; exact Nat.le_refl _
  | b :: s, cur => by
    rw [pieces]; split
    · simp
    · exact pieces_pos s _
theorem pieces_len {c : UInt8} : ∀ (s cur : List UInt8), (pieces c cur s).length ≤ s.length + 1
  | [], cur => by rw [pieces]; exact Nat.le_refl _
  | b :: s, cur => by
    rw [pieces]; split
    · have := pieces_len (c := c) s []; simp; omega
    · have := pieces_len (c := c) s (cur ++ [b]); simp; omega
theorem pieces_one {c : UInt8} {s a : List UInt8} (h : pieces c [] s = [a]) : s = a := by
  rcases parts c s with hn | ⟨x, y, rfl, hx⟩
  · rw [pieces_none [] hn] at h; exact (List.cons.inj h).1
  · rw [pieces_at y [] hx] at h
    have := pieces_pos (c := c) y []
    rw [(List.cons.inj h).2] at this
    exact absurd this (by simp)
theorem pieces_two {c : UInt8} {s a b : List UInt8} (h : pieces c [] s = [a, b]) : s = a ++ c :: b := by
  rcases parts c s with hn | ⟨x, y, rfl, hx⟩
  · rw [pieces_none [] hn] at h; cases (List.cons.inj h).2
  · rw [pieces_at y [] hx] at h
    have h1 := (List.cons.inj h).1
    have h2 := pieces_one (List.cons.inj h).2
    rw [← h1, ← h2]; rfl
theorem pieces_piece {c : UInt8} : ∀ (s cur p : List UInt8), p ∈ pieces c cur s → p.length ≤ cur.length + s.length
  | [], cur, p, h => by
    rw [pieces, List.mem_singleton] at h; subst h; simp
  | b :: s, cur, p, h => by
    rw [pieces] at h
    split at h
    · rcases List.mem_cons.1 h with rfl | h
      · simp
      · have := pieces_piece s [] p h; simp at this ⊢; omega
    · have := pieces_piece s _ p h; simp at this ⊢; omega
theorem split_pieces (c : UInt8) : ∀ (n : Nat) (t : ByteArray), t.size ≤ n → Lib.splitB (sepB c) 0 (Lib.countB t (sepB c)) t = (pieces c [] t.data.toList).map mkB
  | n, t, hn => by
    rcases parts c t.data.toList with h | ⟨x, y, ht, hx⟩
    · rw [split0 h, pieces_none [] h]
      exact congrArg (fun z => [z]) (mkB_back t).symm
    · have hi : Lib.indexB t (sepB c) = x.length := by
        show Lib.index t.data.toList [c] = x.length
        rw [ht]; exact idx1 hx
      have hc := Lib.countB_hit t (sepB c) x.length (Nat.le_refl 1) hi
      have hz : t.size = x.length + 1 + y.length := by rw [size_list, ht]; simp; omega
      have e1 : t.extract 0 (x.length + 0) = mkB x := bytes_eq (by rw [ext_list, ht]; simp; rfl)
      have e2 : t.extract (x.length + (sepB c).size) t.size = mkB y := bytes_eq (by
        rw [ext_list, List.take_of_length_le (by rw [Array.length_toList]; exact Nat.le_refl _), ht]
        show (x ++ c :: y).drop (x.length + 1) = y
        rw [List.drop_append]; simp)
      rw [e2] at hc
      obtain ⟨n, rfl⟩ : ∃ m, n = m + 1 := ⟨n - 1, by omega⟩
      have ih := split_pieces c n (mkB y) (by rw [mkB_size]; omega)
      have hc2 : Lib.countB t (sepB c) = Lib.countB (mkB y) (sepB c) + 1 := by rw [hc]; omega
      rw [hc2, Lib.splitB_hit _ _ _ _ x.length hi, e1, e2, ih, ht, pieces_at y [] hx]
      rfl
theorem dec_isDig : ∀ (n : Nat) (c : UInt8), c ∈ Lib.decDigits n → isDig c
  | n, c, h => by
    have one : ∀ d : Nat, d < 10 → isDig (UInt8.ofNat (48 + d)) := fun d hd => by
      unfold isDig; rw [UInt8.toNat_ofNat']; omega
    by_cases hn : n < 10
    · rw [Lib.decDigits, dif_pos hn, List.mem_singleton] at h
      subst h; exact one n hn
    · rw [Lib.decDigits, dif_neg hn] at h
      rcases List.mem_append.1 h with h | h
      · exact dec_isDig (n / 10) c h
      · rw [List.mem_singleton] at h; subst h; exact one _ (by omega)
theorem no_sep {c : UInt8} (h : ¬ (48 ≤ c.toNat ∧ c.toNat ≤ 57)) (n : Nat) : c ∉ Lib.decDigits n := fun e => h (dec_isDig n c e)
/-- Up to three digits. -/
def d3 (n : Nat) : List UInt8 := if n < 10 then [UInt8.ofNat (48 + n)] else if n < 100 then [UInt8.ofNat (48 + n / 10), UInt8.ofNat (48 + n % 10)] else [UInt8.ofNat (48 + n / 100), UInt8.ofNat (48 + n / 10 % 10), UInt8.ofNat (48 + n % 10)]
theorem dec_d3 (n : Nat) (h : n < 1000) : Lib.decDigits n = d3 n := by
  unfold d3
  by_cases c : n < 10
  · rw [if_pos c, Lib.decDigits, dif_pos c]
  · rw [if_neg c, Lib.decDigits, dif_neg c]
    by_cases c2 : n < 100
    · rw [if_pos c2, Lib.decDigits, dif_pos (by omega)]; rfl
    · rw [if_neg c2, Lib.decDigits, dif_neg (by omega), Lib.decDigits, dif_pos (by omega), show n / 10 / 10 = n / 100 by omega]; rfl
theorem dec_len3 {n : Nat} (h : n < 1000) : (Lib.decDigits n).length ≤ 3 := by
  rw [dec_d3 n h]; unfold d3; split
  · simp
  · split <;> simp
/-- A text that is a number from 0 on, as it is written. -/
def okNum (w : ByteArray) : Option Int := match Lib.atoiAll w.data.toList with
  | .ok v => if v < 0 then none else if Lib.itoa v = w.data.toList then some v else none
  | _ => none
def rn : List ByteArray → List Int → List Int × Bool
  | [], acc => (acc, true)
  | w :: ws, acc => match okNum w with
    | some v => rn ws (acc ++ [v])
    | none => ([], false)
theorem dtl (b : ByteArray) : b.toList = b.data.toList := Go.ByteArray.toList_eq b
theorem body (w : ByteArray) (hw : w.size ≤ 4000000000) (F : Int → Option (List Int × Bool)) : ((strconv_Atoi.f w).bind fun bt => (if bt.2.isNone = true then (if bt.1 < 0 then (some (([] : List Int), false)) else ((strconv_Itoa.f bt.1).bind fun t => (if t.toList = w.toList then F bt.1 else (some (([] : List Int), false))))) else (some (([] : List Int), false)))) = match okNum w with
    | some v => F v
    | none => some ([], false) := by
  unfold strconv_Atoi.f
  rw [if_pos hw]
  unfold atoiP okNum
  cases ha : Lib.atoiAll w.data.toList with
  | ok v =>
    have hb := Lib.atoiAll_bounds ha
    simp only [Option.bind_some, Option.isNone_none, if_true]
    by_cases h0 : v < 0
    · simp only [if_pos h0]
    · simp only [if_neg h0]
      unfold strconv_Itoa.f
      rw [if_pos (by omega)]
      simp only [Option.bind_some, dtl]
      by_cases h1 : Lib.itoa v = w.data.toList
      · rw [if_pos h1]
        simp only [if_pos h1]
      · rw [if_neg h1]
        simp only [if_neg h1]
  | _ => rfl
theorem split_sizes (sep : ByteArray) : ∀ (k : Nat) (s w : ByteArray), w ∈ Lib.splitB sep 0 k s → w.size ≤ s.size
  | 0, s, w, h => by
    rw [Lib.splitB_zero] at h
    simp only [List.mem_cons, List.not_mem_nil, or_false] at h
    subst h; exact Nat.le_refl _
  | k + 1, s, w, h => by
    unfold Lib.splitB at h
    split at h
    · simp only [List.mem_cons, List.not_mem_nil, or_false] at h
      subst h; exact Nat.le_refl _
    · rcases List.mem_cons.1 h with rfl | h
      · rw [ByteArray.size_extract]; omega
      · have := split_sizes sep k _ w h
        rw [ByteArray.size_extract] at this; omega
theorem rn_ev (L : List ByteArray) (hl : L.length ≤ 4000000) (hs : ∀ w, w ∈ L → w.size ≤ 4000000000) : ∀ (d i : Nat) (acc : List Int), i + d = L.length → acc.length = i →
    Mth.Evn (fun k => impl_readNumbers.l0 k acc L (L.length : Int) i) (rn (L.drop i) acc)
  | 0, i, acc, hi, ha => by
    refine (Mth.Evn.now _).step fun k => ?_
    simp only [impl_readNumbers.l0]
    rw [if_neg (by omega), List.drop_of_length_le (by omega)]; rfl
  | d + 1, i, acc, hi, ha => by
    have hlt : i < L.length := by omega
    have er : rdOf ByteArray.empty L (i : Int) = L[i] := by unfold rdOf; rw [List.getD_eq_getElem?_getD, Int.toNat_natCast, List.getElem?_eq_getElem hlt]; rfl
    have hw := hs _ (List.getElem_mem hlt)
    have ew : wrap64 ((i : Int) + 1) = ((i + 1 : Nat) : Int) := by rw [wrap_id (by omega) (by omega)]; omega
    rw [List.drop_eq_getElem_cons hlt]
    cases hk : okNum L[i] with
    | none =>
      have e : rn (L[i] :: L.drop (i + 1)) acc = ([], false) := by rw [rn, hk]
      rw [e]
      refine (Mth.Evn.now _).step fun k => ?_
      simp only [impl_readNumbers.l0, er]
      rw [if_pos (by omega), if_pos (by omega), if_pos (by omega)]
      refine (body L[i] hw (fun v => if acc.length < 17592186044416 then impl_readNumbers.l0 k (acc ++ [v]) L (L.length : Int) (wrap64 ((i : Int) + 1)) else none)).trans ?_
      rw [hk]
    | some v =>
      have e : rn (L[i] :: L.drop (i + 1)) acc = rn (L.drop (i + 1)) (acc ++ [v]) := by rw [rn, hk]
      rw [e]
      have ih := rn_ev L hl hs d (i + 1) (acc ++ [v]) (by omega) (by simp; omega)
      refine ih.step fun k => ?_
      simp only [impl_readNumbers.l0, er]
      rw [if_pos (by omega), if_pos (by omega), if_pos (by omega)]
      refine (body L[i] hw (fun v => if acc.length < 17592186044416 then impl_readNumbers.l0 k (acc ++ [v]) L (L.length : Int) (wrap64 ((i : Int) + 1)) else none)).trans ?_
      rw [hk]
      show (if acc.length < 17592186044416 then _ else _) = _
      rw [if_pos (by omega), ew]
theorem readNumbers_ev {t sep : ByteArray} (ht : t.size ≤ 2000000) (h1 : 1 ≤ sep.size) : Mth.Evn (fun k => impl_readNumbers.f k t sep) (rn (Lib.splitB sep 0 (Lib.countB t sep) t) []) := by
  have hb := Lib.countB_mul_le sep h1 t.size t (Nat.le_refl _)
  have hb2 : Lib.countB t sep * 1 ≤ Lib.countB t sep * sep.size := Nat.mul_le_mul_left _ h1
  have hl := Lib.splitB_all sep h1 0 (Lib.countB t sep) t rfl
  have es : strings_Split.f t sep = some (Lib.splitB sep 0 (Lib.countB t sep) t) := by unfold strings_Split.f; exact if_pos ⟨by omega, h1⟩
  have := rn_ev (Lib.splitB sep 0 (Lib.countB t sep) t) (by omega) (fun w hw => by have := split_sizes sep _ t w hw; omega) (Lib.splitB sep 0 (Lib.countB t sep) t).length 0 [] (by omega) rfl
  rw [List.drop_zero] at this
  unfold impl_readNumbers.f
  rw [es]
  exact this
theorem rn_len : ∀ (L : List ByteArray) (acc xs : List Int), rn L acc = (xs, true) → xs.length = acc.length + L.length
  | [], acc, xs, h => by
    obtain ⟨rfl, _⟩ := Prod.mk.inj h; simp
  | w :: ws, acc, xs, h => by
    rw [rn] at h
    cases hk : okNum w with
    | none => rw [hk] at h; cases h
    | some v =>
      rw [hk] at h
      have := rn_len ws (acc ++ [v]) xs h
      simp at this ⊢; omega
theorem okNum_some {w : ByteArray} {v : Int} (h : okNum w = some v) : 0 ≤ v ∧ Lib.decDigits v.toNat = w.data.toList := by
  unfold okNum at h
  split at h
  · rename_i u hu
    split at h
    · cases h
    · split at h
      · rename_i h0 h1
        obtain rfl := Option.some.inj h
        refine ⟨by omega, ?_⟩
        rw [← h1, Lib.itoa, if_neg h0]
      · cases h
  · cases h
theorem bt_list (t : ByteArray) {i : Nat} (h : i < t.data.toList.length) : bt t (i : Int) = ((t.data.toList[i]).toNat : Int) := by
  have hi : i < t.size := by rw [size_list]; exact h
  unfold bt
  rw [Int.toNat_natCast, dif_pos hi]
  rfl
/-- The reference model's cutting at a sign. -/
theorem l1Split_l0 (t : ByteArray) (c : UInt8) (ht : t.size ≤ 2000000) : ∀ (d i st : Nat) (acc : List ByteArray), i + d = t.size → st ≤ i → acc.length ≤ i →
    Mth.Evn (fun k => spec_l1Split.l0 k t (c.toNat : Int) acc st i) (acc ++ (pieces c ((t.data.toList.take i).drop st) (t.data.toList.drop i)).map mkB)
  | 0, i, st, acc, hi, hs, ha => by
    have hl := size_list t
    refine (Mth.Evn.now _).step fun k => ?_
    simp only [spec_l1Split.l0]
    rw [if_neg (by omega), if_pos (by omega), if_pos (by omega), if_pos (by omega), List.drop_of_length_le (l := t.data.toList) (i := i) (by omega), pieces]
    have e : t.extract st t.size = mkB ((t.data.toList.take i).drop st) := bytes_eq (by rw [ext_list, show i = t.size by omega]; rfl)
    rw [Int.toNat_natCast, e]; rfl
  | d + 1, i, st, acc, hi, hs, ha => by
    have hl := size_list t
    have hlt : i < t.data.toList.length := by omega
    have eb := bt_list t hlt
    have ew : wrap64 ((i : Int) + 1) = ((i + 1 : Nat) : Int) := by rw [wrap_id (by omega) (by omega)]; omega
    rw [List.drop_eq_getElem_cons hlt, pieces]
    by_cases hc : t.data.toList[i] = c
    · have e : t.extract st i = mkB ((t.data.toList.take i).drop st) := bytes_eq (by rw [ext_list]; rfl)
      have ih := l1Split_l0 t c ht d (i + 1) (i + 1) (acc ++ [mkB ((t.data.toList.take i).drop st)]) (by omega) (Nat.le_refl _) (by simp; omega)
      rw [List.drop_of_length_le (l := t.data.toList.take (i + 1)) (by simp; omega), List.append_assoc] at ih
      rw [if_pos hc]
      refine ih.step fun k => ?_
      simp only [spec_l1Split.l0]
      rw [if_pos (by omega), if_pos (by omega), if_pos (by rw [eb, hc]), if_pos (by omega), if_pos (by omega), if_pos (by omega), if_pos (by omega), ew, Int.toNat_natCast, Int.toNat_natCast, e]
    · have ih := l1Split_l0 t c ht d (i + 1) st acc (by omega) (by omega) (by omega)
      have e : (t.data.toList.take (i + 1)).drop st = (t.data.toList.take i).drop st ++ [t.data.toList[i]] := by
        rw [List.take_add_one, List.getElem?_eq_getElem hlt, List.drop_append_of_le_length (by simp; omega)]; rfl
      rw [e] at ih
      rw [if_neg hc]
      refine ih.step fun k => ?_
      simp only [spec_l1Split.l0]
      rw [if_pos (by omega), if_pos (by omega), if_neg (by rw [eb]; exact fun e2 => hc (UInt8.toNat_inj.1 (by omega))), ew]
theorem l1Split_ev {t : ByteArray} (ht : t.size ≤ 2000000) (c : UInt8) : Mth.Evn (fun k => spec_l1Split.f k t (c.toNat : Int)) ((pieces c [] t.data.toList).map mkB) := by
  have := l1Split_l0 t c ht t.size 0 0 [] (by omega) (Nat.le_refl _) (Nat.le_refl _)
  rw [List.nil_append, List.drop_zero, List.drop_zero, List.take_zero] at this
  unfold spec_l1Split.f
  exact this
theorem evn_of_mono {α : Type} {f : Nat → Option α} (hm : ∀ k, LeO (f k) (f (k + 1))) {N : Nat} {r : α} (h : f N = some r) : Mth.Evn f r := by
  refine ⟨N, fun k hk => ?_⟩
  obtain ⟨d, rfl⟩ : ∃ d, k = N + d := ⟨k - N, by omega⟩
  clear hk
  induction d with
  | zero => exact h
  | succ d ih => exact hm (N + d) r ih
theorem read_d3 : ∀ p : Fin 101, spec_l1Read.f 10 (mkB (d3 p)) = some ((p.val : Nat) : Int) := by decide +kernel
theorem read_yes {n : Nat} (h : n ≤ 100) : Mth.Evn (fun k => spec_l1Read.f k (mkB (Lib.decDigits n))) (n : Int) := by
  rw [dec_d3 n (by omega)]
  exact evn_of_mono (fun k => spec_l1Read.mono _ k) (read_d3 ⟨n, by omega⟩)
theorem l1Read_back (s : ByteArray) (hs : s.size ≤ 6) : ∀ (d i x : Nat), i + d = s.size → x < 10 ^ i →
    ∃ r : Int, Mth.Evn (fun k => spec_l1Read.l0 k s (x : Int) i) r ∧ (0 ≤ r → (∀ c, c ∈ s.data.toList.drop i → isDig c) ∧ r.toNat = val x (s.data.toList.drop i))
  | 0, i, x, hi, hx => by
    have hl := size_list s
    refine ⟨x, (Mth.Evn.now _).step fun k => by simp only [spec_l1Read.l0]; rw [if_neg (by omega)], fun _ => ?_⟩
    rw [List.drop_of_length_le (by omega), val_nil]
    exact ⟨fun c hc => (by cases hc), by omega⟩
  | d + 1, i, x, hi, hx => by
    have hl := size_list s
    have hlt : i < s.data.toList.length := by omega
    have eb := bt_list s hlt
    have ew : wrap64 ((i : Int) + 1) = ((i + 1 : Nat) : Int) := by rw [wrap_id (by omega) (by omega)]; omega
    have hp : 10 ^ i ≤ 10 ^ 6 := Nat.pow_le_pow_right (by omega) (by omega)
    have e6 : (10 : Nat) ^ 6 = 1000000 := by decide
    have es : (10 : Nat) ^ (i + 1) = 10 * 10 ^ i := by rw [Nat.pow_succ]; omega
    rw [List.drop_eq_getElem_cons hlt, val_cons]
    generalize s.data.toList[i] = b at eb ⊢
    by_cases c1 : bt s i < 48
    · exact ⟨-1, (Mth.Evn.now _).step fun k => by simp only [spec_l1Read.l0]; rw [if_pos (by omega), if_pos (by omega), if_pos c1], fun h => absurd h (by omega)⟩
    · by_cases c2 : bt s i > 57
      · exact ⟨-1, (Mth.Evn.now _).step fun k => by simp only [spec_l1Read.l0]; rw [if_pos (by omega), if_pos (by omega), if_neg c1, if_pos c2], fun h => absurd h (by omega)⟩
      · have hx2 : x < 1000000 := by omega
        obtain ⟨r, hr, h2⟩ := l1Read_back s hs d (i + 1) (10 * x + (b.toNat - 48)) (by omega) (by omega)
        have e1 : wrap64 ((wrap64 (10 * (x : Int))) + (((bt s i) - 48) % 256)) = ((10 * x + (b.toNat - 48) : Nat) : Int) := by
          rw [wrap_id (x := 10 * (x : Int)) (by omega) (by omega), eb]
          rw [eb] at c1 c2
          rw [wrap_id (by omega) (by omega)]; omega
        refine ⟨r, hr.step fun k => by simp only [spec_l1Read.l0]; rw [if_pos (by omega), if_pos (by omega), if_neg c1, if_neg c2, ew, e1], fun h => ?_⟩
        obtain ⟨h3, h4⟩ := h2 h
        refine ⟨fun c hc => ?_, h4⟩
        rcases List.mem_cons.1 hc with rfl | hc
        · unfold isDig; omega
        · exact h3 c hc
/-- The reference model's reading of a numeral: a number from 0 on is read of its own text alone. -/
theorem read_back (s : ByteArray) : ∃ r : Int, Mth.Evn (fun k => spec_l1Read.f k s) r ∧ (0 ≤ r → Lib.decDigits r.toNat = s.data.toList) := by
  have hl := size_list s
  have yes : Mth.Evn (fun k => spec_l1Read.j0 k s true) (-1) := (Mth.Evn.now _).step fun k => by simp only [spec_l1Read.j0]; rw [if_pos trivial]
  unfold spec_l1Read.f
  rw [l1In_eq]
  simp only [Option.bind_some]
  by_cases c : 1 ≤ (s.size : Int) ∧ (s.size : Int) ≤ 6
  · obtain ⟨r, hr, hb⟩ := l1Read_back s (by omega) s.size 0 0 (by omega) (by simp)
    rw [List.drop_zero] at hb
    have no : Mth.Evn (fun k => spec_l1Read.j0 k s false) r := hr.step fun k => by simp only [spec_l1Read.j0]; rw [if_neg (by simp)]; rfl
    have e0 := bt_list s (i := 0) (by omega)
    have fin : ((bt s 0 ≠ 48) ∨ s.size = 1) → 0 ≤ r → Lib.decDigits r.toNat = s.data.toList := by
      intro h0 h
      obtain ⟨h1, h2⟩ := hb h
      rw [h2]
      cases hs : s.data.toList with
      | nil =>
        rw [hs, List.length_nil] at hl
        omega
      | cons b q =>
        rw [hs] at h1 hl
        simp only [hs, List.getElem_cons_zero] at e0
        refine canon h1 ?_
        rcases h0 with h0 | h0
        · exact .inl (fun e => h0 (by rw [show (0 : Int) = ((0 : Nat) : Int) from rfl, e0, e]; rfl))
        · refine .inr ?_
          cases q with
          | nil => rfl
          | cons _ _ => simp at hl; omega
    by_cases c0 : bt s 0 = 48
    · by_cases c1 : (s.size : Int) > 1
      · exact ⟨-1, Mth.Evn.congr (fun k => (if_pos (decide_eq_true c)).trans ((if_pos (by omega)).trans ((if_pos c0).trans (by rw [decide_eq_true c1])))) yes, fun h => absurd h (by omega)⟩
      · exact ⟨r, Mth.Evn.congr (fun k => (if_pos (decide_eq_true c)).trans ((if_pos (by omega)).trans ((if_pos c0).trans (by rw [decide_eq_false c1])))) no, fin (.inr (by omega))⟩
    · exact ⟨r, Mth.Evn.congr (fun k => (if_pos (decide_eq_true c)).trans ((if_pos (by omega)).trans (if_neg c0))) no, fin (.inl c0)⟩
  · exact ⟨-1, Mth.Evn.congr (fun k => if_neg (by simpa using c)) yes, fun h => absurd h (by omega)⟩
theorem atoi_d3 : ∀ p : Fin 101, Lib.atoiAll (d3 p) = .ok ((p.val : Nat) : Int) := by decide +kernel
theorem okNum_yes {n : Nat} (h : n ≤ 100) : okNum (mkB (Lib.decDigits n)) = some (n : Int) := by
  have ha := atoi_d3 ⟨n, by omega⟩
  dsimp only at ha
  rw [← dec_d3 n (by omega)] at ha
  unfold okNum
  rw [mkB_list, ha]
  have h0 : ¬ (n : Int) < 0 := by omega
  have hi : Lib.itoa (n : Int) = Lib.decDigits n := by unfold Lib.itoa; rw [if_neg h0, Int.toNat_natCast]
  show (if (n : Int) < 0 then none else if Lib.itoa (n : Int) = Lib.decDigits n then some (n : Int) else none) = _
  rw [if_neg h0, if_pos hi]
theorem rn_yes : ∀ (ns : List Nat) (acc : List Int), (∀ n, n ∈ ns → n ≤ 100) → rn (ns.map fun n => mkB (Lib.decDigits n)) acc = (acc ++ ns.map (fun n : Nat => (n : Int)), true)
  | [], acc, _ => by simp [rn]
  | n :: ns, acc, h => by
    rw [List.map_cons, rn, okNum_yes (h n List.mem_cons_self)]
    have := rn_yes ns (acc ++ [(n : Int)]) (fun m hm => h m (List.mem_cons_of_mem _ hm))
    dsimp only
    rw [this, List.append_assoc]; rfl
theorem rn_back : ∀ (L : List ByteArray) (acc xs : List Int), rn L acc = (xs, true) → ∃ ns : List Nat, xs = acc ++ ns.map (fun n : Nat => (n : Int)) ∧ L.map (fun b => b.data.toList) = ns.map Lib.decDigits
  | [], acc, xs, h => by
    obtain ⟨rfl, _⟩ := Prod.mk.inj h
    exact ⟨[], by simp, rfl⟩
  | w :: ws, acc, xs, h => by
    rw [rn] at h
    cases hk : okNum w with
    | none => rw [hk] at h; cases h
    | some v =>
      rw [hk] at h
      obtain ⟨h0, hv⟩ := okNum_some hk
      obtain ⟨ns, e1, e2⟩ := rn_back ws (acc ++ [v]) xs h
      refine ⟨v.toNat :: ns, ?_, ?_⟩
      · rw [e1, List.append_assoc, List.map_cons, show ((v.toNat : Nat) : Int) = v by omega]; rfl
      · rw [List.map_cons, List.map_cons, e2, hv]
/-- What readNumbers comes to. -/
theorem nums_ev {t : ByteArray} (ht : t.size ≤ 2000000) (c : UInt8) : Mth.Evn (fun k => impl_readNumbers.f k t (sepB c)) (rn ((pieces c [] t.data.toList).map mkB) []) := by
  have := readNumbers_ev (t := t) (sep := sepB c) ht (Nat.le_refl 1)
  rwa [split_pieces c t.size t (Nat.le_refl _)] at this
theorem nums_yes {t : ByteArray} {c : UInt8} {ns : List Nat} (ht : t.size ≤ 2000000) (hp : pieces c [] t.data.toList = ns.map Lib.decDigits) (hs : ∀ n, n ∈ ns → n ≤ 100) : Mth.Evn (fun k => impl_readNumbers.f k t (sepB c)) (ns.map (fun n : Nat => (n : Int)), true) := by
  have := nums_ev ht c
  rw [hp, List.map_map] at this
  have e := rn_yes ns [] hs
  rw [List.nil_append] at e
  rw [show (mkB ∘ Lib.decDigits) = fun n => mkB (Lib.decDigits n) from rfl, e] at this
  exact this
/-- What readNumbers reads well is numbers' own texts. -/
theorem nums_back {t : ByteArray} (ht : t.size ≤ 2000000) (c : UInt8) : ∃ xs : List Int, ∃ b : Bool, Mth.Evn (fun k => impl_readNumbers.f k t (sepB c)) (xs, b) ∧ (b = true → 1 ≤ xs.length ∧ ∃ ns : List Nat, xs = ns.map (fun n : Nat => (n : Int)) ∧ pieces c [] t.data.toList = ns.map Lib.decDigits) := by
  have h := nums_ev ht c
  cases hr : rn ((pieces c [] t.data.toList).map mkB) [] with
  | mk xs b =>
    rw [hr] at h
    refine ⟨xs, b, h, ?_⟩
    rintro rfl
    have hl := rn_len _ _ _ hr
    have hp := pieces_pos (c := c) t.data.toList []
    obtain ⟨ns, e1, e2⟩ := rn_back _ _ _ hr
    refine ⟨by simp at hl; omega, ns, by rw [e1, List.nil_append], ?_⟩
    rw [← e2, List.map_map]
    exact (List.map_id _).symm
abbrev clueOk (kd a b : Int) : Prop := (0 ≤ a ∧ a ≤ 100) ∧ (0 ≤ b ∧ b ≤ 100) ∧ ((kd = 0 ∧ a = 0 ∧ b ≤ 1) ∨ ((kd = 1 ∨ kd = 2 ∨ kd = 5) ∧ a = 0) ∨ ((kd = 3 ∨ kd = 4) ∧ 1 ≤ b))
theorem pzClue_eq (k : Nat) (kd a b : Int) : spec_pzClue.f (k + 2) kd a b = some (decide (clueOk kd a b)) := by
  unfold clueOk
  simp only [spec_pzClue.f, spec_pzClue.j0, spec_pzClue.j1, l1In_eq, Option.bind_some]
  by_cases h2 : 0 ≤ a ∧ a ≤ 100
  · by_cases h3 : 0 ≤ b ∧ b ≤ 100
    · simp only [h2, h3, decide_true, if_true, Bool.not_true, Bool.false_eq_true, if_false, Option.bind_some, true_and, and_self]
      by_cases k0 : kd = 0
      · subst k0; by_cases h4 : a = 0
        · subst h4; simp; omega
        · simp [h4]
      · by_cases k1 : kd = 1
        · subst k1; simp
          by_cases h4 : a = 0 <;> simp [h4]
        · by_cases k2 : kd = 2
          · subst k2; simp
            by_cases h4 : a = 0 <;> simp [h4]
          · by_cases k5 : kd = 5
            · subst k5; simp
              by_cases h4 : a = 0 <;> simp [h4]
            · have k5' : (kd == 5) = false := by simpa using k5
              by_cases k3 : kd = 3
              · subst k3; simp; omega
              · by_cases k4 : kd = 4
                · subst k4; simp; omega
                · simp [k0, k1, k2, k3, k4, k5]
    · simp [h2, h3]
  · simp only [h2, decide_false, Bool.false_eq_true, if_false, false_and, if_true]
theorem IsClue_eq (k : Nat) (of kd a b : Int) : impl_IsClue.f (k + 1) of kd a b = some (decide ((1 ≤ of ∧ of ≤ 8) ∧ clueOk kd a b)) := by
  unfold clueOk
  unfold impl_IsClue.f impl_isTwo.f
  by_cases k3 : kd = 3
  · rw [if_pos k3]; simp only [Option.bind_some, if_true, impl_IsClue.j0, within_eq, ite_dec]
    exact some_dec (by omega)
  · rw [if_neg k3]
    by_cases k4 : kd = 4
    · have e : (kd == 4) = true := by simpa using k4
      simp only [e, Option.bind_some, if_true, impl_IsClue.j0, within_eq, ite_dec]
      exact some_dec (by omega)
    · have e : (kd == 4) = false := by simpa using k4
      rw [e]; simp only [Option.bind_some, Bool.false_eq_true, if_false]
      by_cases k0 : kd = 0
      · rw [if_pos k0]; simp only [impl_IsClue.j0, within_eq, Option.bind_some, ite_dec]
        exact some_dec (by omega)
      · rw [if_neg k0]; simp only [impl_IsClue.j0, within_eq, Option.bind_some, ite_dec]
        exact some_dec (by omega)
theorem rdg_get (xs : List S38) (i : Int) (h : i.toNat < xs.length) : rd_T38 xs i = xs[i.toNat] := by unfold rd_T38; rw [List.getD_eq_getElem?_getD, List.getElem?_eq_getElem h]; rfl
/-- What makes a puzzle. -/
def goodP (o : Int) (l : List S38) : Bool := decide (1 ≤ o ∧ o ≤ 8) && (decide (l.length ≤ 6) && l.all fun x => decide (clueOk x.f0 x.f1 x.f2))
theorem anyO_some (f : S38 → Option Bool) (p : S38 → Bool) : ∀ l : List S38, (∀ x, x ∈ l → f x = some (p x)) → anyO f l = some (l.any p)
  | [], _ => rfl
  | x :: xs, h => by
    simp only [anyO, h x (by simp), Option.bind_some, List.any_cons]
    cases e : p x with
    | true => simp
    | false => simpa using anyO_some f p xs (fun y hy => h y (by simp [hy]))
theorem IsPuzzle_evn (o : Int) (l : List S38) : Mth.Evn (fun k => impl_IsPuzzle.f k o l) (goodP o l) := by
  refine ⟨1, fun k hk => ?_⟩
  obtain ⟨k, rfl⟩ : ∃ j, k = j + 1 := ⟨k - 1, by omega⟩
  show impl_IsPuzzle.f (k + 1) o l = _
  unfold impl_IsPuzzle.f impl_Clue.f
  rw [within_eq]; simp only [Option.bind_some]
  unfold goodP
  by_cases ho : 1 ≤ o ∧ o ≤ 8
  · rw [decide_eq_true ho, if_pos rfl]
    by_cases hl : l.length ≤ 6
    · rw [if_pos (by omega), if_pos (by omega), anyO_some _ (fun x => !decide (clueOk x.f0 x.f1 x.f2)) l (fun x _ => ?_)]
      · simp only [Option.bind_some, decide_eq_true hl, Bool.true_and, List.not_any_eq_all_not, Bool.not_not]
      · rw [IsClue_eq]; simp [ho]
    · rw [if_neg (by omega), decide_eq_false hl]; simp
  · rw [decide_eq_false ho, if_neg (by simp)]; simp
theorem pzGood_l0 (l : List S38) (hl : l.length ≤ 6) : ∀ (d : Nat) (i : Int), 0 ≤ i → i + d = l.length →
    Mth.Evn (fun k => spec_pzGood.l0 k l (l.length : Int) i) ((l.drop i.toNat).all fun x => decide (clueOk x.f0 x.f1 x.f2))
  | 0, i, h0, hi => by
    rw [List.drop_eq_nil_of_le (by omega)]
    refine (Mth.Evn.now _).step fun k => ?_
    simp only [spec_pzGood.l0]; rw [if_neg (by omega)]; rfl
  | d + 1, i, h0, hi => by
    have hlt : i.toNat < l.length := by omega
    rw [List.drop_eq_getElem_cons hlt]
    have ih := pzGood_l0 l hl d (i + 1) (by omega) (by omega)
    rw [show (i + 1).toNat = i.toNat + 1 by omega] at ih
    have hq : Mth.Evn (fun k => spec_pzClue.f k ((rd_T38 l i).f0) ((rd_T38 l i).f1) ((rd_T38 l i).f2)) (decide (clueOk (l[i.toNat]).f0 (l[i.toNat]).f1 (l[i.toNat]).f2)) := by
      refine ⟨2, fun k hk => ?_⟩
      obtain ⟨k, rfl⟩ : ∃ j, k = j + 2 := ⟨k - 2, by omega⟩
      show spec_pzClue.f (k + 2) _ _ _ = _
      rw [pzClue_eq, rdg_get l i hlt]
    refine Mth.Evn.step (g := fun k => (spec_pzClue.f k ((rd_T38 l i).f0) ((rd_T38 l i).f1) ((rd_T38 l i).f2)).bind fun t => if t = true then spec_pzGood.l0 k l (l.length : Int) (i + 1) else some false) (fun k => ?_) (hq.bind ?_)
    · simp only [spec_pzGood.l0]
      rw [if_pos (by omega), if_pos h0, if_pos (by omega), wrap_id (x := i + 1) (by omega) (by omega)]
    · by_cases h : clueOk (l[i.toNat]).f0 (l[i.toNat]).f1 (l[i.toNat]).f2
      · simp only [List.all_cons, decide_eq_true h, if_true, Bool.true_and]; exact ih
      · simp only [List.all_cons, decide_eq_false h, Bool.false_and]
        exact Mth.Evn.congr (fun k => if_neg (by simp)) (Mth.Evn.now _)
theorem pzGood_evn (o : Int) (l : List S38) : Mth.Evn (fun k => spec_pzGood.f k o l) (goodP o l) := by
  have ep : spec_pzOf.f o = some (decide (1 ≤ o ∧ o ≤ 8)) := by unfold spec_pzOf.f; rw [l1In_eq]; rfl
  unfold spec_pzGood.f goodP
  rw [ep]; simp only [Option.bind_some]
  by_cases ho : 1 ≤ o ∧ o ≤ 8
  · rw [decide_eq_true ho]
    refine Mth.Evn.congr (fun k => if_pos rfl) ?_
    by_cases hl : l.length ≤ 6
    · refine Mth.Evn.step (g := fun k => spec_pzGood.l0 k l (l.length : Int) 0) (fun k => ?_) ?_
      · simp only [spec_pzGood.j0]; rw [decide_eq_false (by omega), if_neg (by simp)]
      · simpa [hl] using pzGood_l0 l hl l.length 0 (by omega) (by omega)
    · refine Mth.Evn.step (g := fun k => some false) (fun k => ?_) ?_
      · simp only [spec_pzGood.j0]; rw [decide_eq_true (by omega), if_pos rfl]
      · simpa [hl] using Mth.Evn.now false
  · rw [decide_eq_false ho]
    refine Mth.Evn.congr (fun k => if_neg (by simp)) ?_
    refine Mth.Evn.step (g := fun k => some false) (fun k => ?_) (by simpa using Mth.Evn.now false)
    simp only [spec_pzGood.j0]; rw [if_pos trivial]
/-- A number in decimal. -/
def dig (n : Nat) : ByteArray := ⟨(Lib.decDigits n).toArray⟩
theorem dec_small {n : Nat} (h : n < 10) : Lib.decDigits n = [UInt8.ofNat (48 + n)] := by rw [Lib.decDigits, dif_pos h]
theorem dec_big {n : Nat} (h : ¬ n < 10) : Lib.decDigits n = Lib.decDigits (n / 10) ++ [UInt8.ofNat (48 + n % 10)] := by rw [Lib.decDigits, dif_neg h]
theorem dec_len : ∀ (d n : Nat), n < 10 ^ (d + 1) → (Lib.decDigits n).length ≤ d + 1
  | 0, n, h => by rw [dec_small (by simpa using h)]; simp
  | d + 1, n, h => by
    by_cases h10 : n < 10
    · rw [dec_small h10]; simp
    · rw [dec_big h10]
      have := dec_len d (n / 10) (by rw [Nat.pow_succ] at h; omega)
      simp; omega
theorem dig_size (d n : Nat) (h : n < 10 ^ (d + 1)) : (dig n).size ≤ d + 1 := by
  have := dec_len d n h
  unfold dig; simpa [ByteArray.size] using this
theorem one_digit (n : Nat) (h : n < 10) : strOfNums [(wrap64 (48 + (n : Int))) % 256] = ⟨#[UInt8.ofNat (48 + n)]⟩ := by
  rw [wrap_id (by omega) (by omega), show (48 + (n : Int)) % 256 = ((48 + n : Nat) : Int) by omega]; rfl
theorem bytes_app (a b : List UInt8) : (⟨a.toArray⟩ : ByteArray) ++ ⟨b.toArray⟩ = ⟨(a ++ b).toArray⟩ := by
  apply ByteArray.ext
  simp
theorem l1Num_at : ∀ (d n k : Nat), n < 10 ^ (d + 1) → d < 18 → d < k → spec_l1Num.f k (n : Int) = some (dig n)
  | d, n, k, h, hd, hk => by
    obtain ⟨k, rfl⟩ : ∃ m, k = m + 1 := ⟨k - 1, by omega⟩
    have hp : n < 10 ^ 18 := Nat.lt_of_lt_of_le h (Nat.pow_le_pow_right (by omega) (by omega))
    have e18 : 10 ^ 18 = 1000000000000000000 := by decide
    simp only [spec_l1Num.f]
    by_cases h10 : n < 10
    · rw [if_pos (by omega), one_digit n h10, dig, dec_small h10]
    · rw [if_neg (by omega)]
      have et : Int.tdiv (n : Int) 10 = ((n / 10 : Nat) : Int) := by rw [Int.tdiv_eq_ediv_of_nonneg (by omega)]; omega
      have em : Int.tmod (n : Int) 10 = ((n % 10 : Nat) : Int) := by rw [Int.tmod_eq_emod_of_nonneg (by omega)]; omega
      obtain ⟨d, rfl⟩ : ∃ m, d = m + 1 := ⟨d - 1, by
        have : d ≠ 0 := by rintro rfl; simp at h; omega
        omega⟩
      have h1 : n / 10 < 10 ^ (d + 1) := by rw [Nat.pow_succ] at h; omega
      rw [et, em, wrap_id (x := ((n / 10 : Nat) : Int)) (by omega) (by omega), l1Num_at d (n / 10) k h1 (by omega) (by omega)]
      simp only [Option.bind_some]
      rw [one_digit (n % 10) (by omega)]
      have hs := dig_size d (n / 10) h1
      have h2 : (⟨#[UInt8.ofNat (48 + n % 10)]⟩ : ByteArray).size = 1 := rfl
      rw [if_pos (by omega)]
      rw [dig, dig, dec_big h10, ← bytes_app]
theorem num_ev {z : Int} (h : 0 ≤ z) (h' : z ≤ 100) : Mth.Evn (fun k => spec_l1Num.f k z) (dig z.toNat) := by
  refine ⟨3, fun k hk => ?_⟩
  show spec_l1Num.f k z = _
  have := l1Num_at 2 z.toNat k (by simp; omega) (by omega) (by omega)
  rwa [show ((z.toNat : Nat) : Int) = z by omega] at this
theorem dg_size {z : Int} (h' : z ≤ 100) : (dig z.toNat).size ≤ 3 := dig_size 2 z.toNat (by simp; omega)
theorem z44 : (⟨#[44]⟩ : ByteArray).size = 1 := rfl
theorem z46 : (⟨#[46]⟩ : ByteArray).size = 1 := rfl
theorem z58 : (⟨#[58]⟩ : ByteArray).size = 1 := rfl
/-- A clue's text. -/
def wB (x : S38) : ByteArray := ((((dig x.f0.toNat) ++ (⟨#[46]⟩ : ByteArray)) ++ (dig x.f1.toNat)) ++ (⟨#[46]⟩ : ByteArray)) ++ (dig x.f2.toNat)
def small (x : S38) : Prop := (0 ≤ x.f0 ∧ x.f0 ≤ 100) ∧ (0 ≤ x.f1 ∧ x.f1 ≤ 100) ∧ (0 ≤ x.f2 ∧ x.f2 ≤ 100)
theorem wB_size {x : S38} (h : small x) : (wB x).size ≤ 11 := by
  obtain ⟨h0, h1, h2⟩ := h
  have := dg_size h0.2; have := dg_size h1.2; have := dg_size h2.2
  unfold wB
  simp only [ByteArray.size_append, z46]; omega
/-- Words with a sign between. -/
def tl44 (l : List S38) : List UInt8 := l.flatMap fun x => 44 :: (wB x).data.toList
def txt (l : List S38) : List UInt8 := match l with
  | [] => []
  | x :: xs => (wB x).data.toList ++ tl44 xs
theorem tl44_len : ∀ (l : List S38), (∀ x, x ∈ l → small x) → (tl44 l).length ≤ 12 * l.length
  | [], _ => by simp [tl44]
  | x :: l, h => by
    have ih := tl44_len l (fun y hy => h y (List.mem_cons_of_mem _ hy))
    have hb := wB_size (h x List.mem_cons_self)
    have e : (wB x).data.toList.length = (wB x).size := by rw [Array.length_toList]; rfl
    unfold tl44 at ih ⊢
    rw [List.flatMap_cons, List.length_append, List.length_cons, List.length_cons, e]; omega
theorem txt_len : ∀ (l : List S38), (∀ x, x ∈ l → small x) → (txt l).length ≤ 12 * l.length
  | [], _ => by simp [txt]
  | x :: l, h => by
    have ih := tl44_len l (fun y hy => h y (List.mem_cons_of_mem _ hy))
    have hb := wB_size (h x List.mem_cons_self)
    have e : (wB x).data.toList.length = (wB x).size := by rw [Array.length_toList]; rfl
    unfold txt
    rw [List.length_append, List.length_cons, e]; omega
theorem app_size (a b : ByteArray) : (a ++ b).size = a.size + b.size := ByteArray.size_append
/-- The reference model's loop over the clues, behind the first one. -/
theorem pzText_l0 (l : List S38) (hl : l.length ≤ 6) (hs : ∀ x, x ∈ l → small x) : ∀ (d : Nat) (i : Nat) (acc : ByteArray), 0 < i → i + d = l.length → acc.size + 12 * d ≤ 1000 →
    Mth.Evn (fun k => spec_pzText.l0 k acc l (l.length : Int) i) (⟨(acc.data.toList ++ tl44 (l.drop i)).toArray⟩ : ByteArray)
  | 0, i, acc, h0, hi, ha => by
    refine (Mth.Evn.now _).step fun k => ?_
    simp only [spec_pzText.l0]
    rw [if_neg (by omega), List.drop_of_length_le (by omega)]
    exact congrArg some (bytes_eq (by simp [tl44]))
  | d + 1, i, acc, h0, hi, ha => by
    have hlt : i < l.length := by omega
    have er : rd_T38 l (i : Int) = l[i] := by rw [rdg_get l (i : Int) (by omega)]; rfl
    obtain ⟨g0, g1, g2⟩ := hs _ (List.getElem_mem hlt)
    have s0 := dg_size g0.2; have s1 := dg_size g1.2; have s2 := dg_size g2.2
    have hw := wB_size (hs _ (List.getElem_mem hlt))
    have e : acc.data.toList ++ tl44 (l.drop i) = ((acc ++ (⟨#[44]⟩ : ByteArray)) ++ wB l[i]).data.toList ++ tl44 (l.drop (i + 1)) := by
      have et : tl44 (l.drop i) = 44 :: ((wB l[i]).data.toList ++ tl44 (l.drop (i + 1))) := by rw [List.drop_eq_getElem_cons hlt]; unfold tl44; rw [List.flatMap_cons]; rfl
      rw [et, app_list, app_list, List.append_assoc, List.append_assoc]; rfl
    have ih := pzText_l0 l hl hs d (i + 1) ((acc ++ (⟨#[44]⟩ : ByteArray)) ++ wB l[i]) (by omega) (by omega) (by rw [app_size, app_size, z44]; omega)
    rw [← e] at ih
    refine Mth.Evn.step (fun k => by simp only [spec_pzText.l0, er]; rw [if_pos (by omega), if_pos (by omega), if_pos (by omega), if_pos (by omega), if_pos (by omega)]) ?_
    refine (num_ev g0.1 g0.2).bind ?_
    refine Mth.Evn.congr (fun k => if_pos (by omega)) ?_
    refine (num_ev g1.1 g1.2).bind ?_
    refine Mth.Evn.congr (fun k => (if_pos (by rw [app_size, z46]; omega)).trans (if_pos (by rw [app_size, app_size, z46]; omega))) ?_
    refine (num_ev g2.1 g2.2).bind ?_
    refine Mth.Evn.congr (fun k => (if_pos (by rw [app_size, app_size, app_size, z46]; omega)).trans (if_pos (by show _ + (wB l[i]).size ≤ _; rw [app_size, z44]; omega))) ?_
    refine Mth.Evn.congr (fun k => ?_) ih
    rw [wrap_id (x := (i : Int) + 1) (by omega) (by omega)]
    rfl
theorem pzText_ev {o : Int} (ho : 0 ≤ o) (ho' : o ≤ 100) (l : List S38) (hl : l.length ≤ 6) (hs : ∀ x, x ∈ l → small x) : Mth.Evn (fun k => spec_pzText.f k o l) (⟨((dig o.toNat).data.toList ++ [58] ++ txt l).toArray⟩ : ByteArray) := by
  have so := dg_size ho'
  unfold spec_pzText.f
  refine (num_ev ho ho').bind ?_
  refine Mth.Evn.congr (fun k => if_pos (by omega)) ?_
  cases l with
  | nil =>
    refine (Mth.Evn.now _).step fun k => ?_
    simp only [spec_pzText.l0]
    rw [if_neg (by simp)]
    exact congrArg some (bytes_eq (by rw [app_list]; simp [txt]))
  | cons x xs =>
    have hx := hs x List.mem_cons_self
    obtain ⟨g0, g1, g2⟩ := id hx
    have s0 := dg_size g0.2; have s1 := dg_size g1.2; have s2 := dg_size g2.2
    have hw := wB_size hx
    have er : rd_T38 (x :: xs) (0 : Int) = x := by rw [rdg_get (x :: xs) (0 : Int) (by simp)]; rfl
    have ln : (x :: xs).length = xs.length + 1 := rfl
    have ih := pzText_l0 (x :: xs) hl hs xs.length 1 ((dig o.toNat ++ (⟨#[58]⟩ : ByteArray)) ++ wB x) (by omega) (by rw [ln]; omega) (by rw [app_size, app_size, z58]; omega)
    have e : ((dig o.toNat ++ (⟨#[58]⟩ : ByteArray)) ++ wB x).data.toList ++ tl44 ((x :: xs).drop 1) = (dig o.toNat).data.toList ++ [58] ++ txt (x :: xs) := by
      rw [app_list, app_list, List.append_assoc]; rfl
    rw [e] at ih
    refine Mth.Evn.step (fun k => by simp only [spec_pzText.l0, er]; rw [if_pos (by omega), if_pos (by omega), if_pos (by omega), if_neg (by omega)]) ?_
    refine (num_ev g0.1 g0.2).bind ?_
    refine Mth.Evn.congr (fun k => if_pos (by omega)) ?_
    refine (num_ev g1.1 g1.2).bind ?_
    refine Mth.Evn.congr (fun k => (if_pos (by rw [app_size, z46]; omega)).trans (if_pos (by rw [app_size, app_size, z46]; omega))) ?_
    refine (num_ev g2.1 g2.2).bind ?_
    refine Mth.Evn.congr (fun k => (if_pos (by rw [app_size, app_size, app_size, z46]; omega)).trans (if_pos (by show _ + (wB x).size ≤ _; rw [app_size, z58]; omega))) ?_
    refine Mth.Evn.congr (fun k => ?_) ih
    rw [wrap_id (x := (0 : Int) + 1) (by omega) (by omega)]
    rfl
theorem rdc_get (xs : List S38) (i : Int) (h : i.toNat < xs.length) : rd_T38 xs i = xs[i.toNat] := by unfold rd_T38; rw [List.getD_eq_getElem?_getD, List.getElem?_eq_getElem h]; rfl
theorem rdc_set (xs : List S38) (i : Int) (v : S38) (h : i.toNat < xs.length) : rd_T38 (xs.set i.toNat v) i = v := by
  rw [rdc_get _ _ (by simpa using h)]; simp
theorem rdc_set_ne (xs : List S38) (i j : Int) (v : S38) (h : i.toNat ≠ j.toNat) : rd_T38 (xs.set i.toNat v) j = rd_T38 xs j := by
  unfold rd_T38; rw [List.getD_eq_getElem?_getD, List.getD_eq_getElem?_getD, List.getElem?_set_ne h]
theorem eqClueS_ev (xs : List S38) (hl : xs.length ≤ 1048576) : Mth.Evn (fun k => laws_eqClueS.f k xs xs) true := by
  have go : ∀ (d : Nat) (i : Int), 0 ≤ i → i + d = xs.length → Mth.Evn (fun k => laws_eqClueS.l0 k xs xs i) true := by
    intro d
    induction d with
    | zero =>
      intro i h0 hi
      refine (Mth.Evn.now _).step fun k => ?_
      simp only [laws_eqClueS.l0]; rw [if_neg (by omega)]
    | succ d ih =>
      intro i h0 hi
      refine (ih (i + 1) (by omega) (by omega)).step fun k => ?_
      simp only [laws_eqClueS.l0]
      rw [if_pos (by omega), if_pos h0, if_pos (by omega)]
      unfold laws_eqClue.f
      rw [if_pos rfl, if_pos rfl, if_pos rfl]
      simp only [Option.bind_some, if_true]
      rw [wrap_id (x := i + 1) (by omega) (by omega)]
  unfold laws_eqClueS.f
  refine Mth.Evn.congr (fun k => if_pos rfl) ?_
  exact go xs.length 0 (by omega) (by omega)
theorem markClueS_l0 : ∀ (d : Nat) (xs : List S38) (m i : Int), xs.length ≤ 1048576 → 0 ≤ i → i + d = xs.length → 0 ≤ m → m + 3 * d ≤ 4000000 →
    ∃ r : List S38, r.length = xs.length ∧ (∀ j : Int, 0 ≤ j → j < i → rd_T38 r j = rd_T38 xs j) ∧ (∀ j : Int, i ≤ j → j < xs.length → rd_T38 r j = ⟨m + 3 * (j - i), m + 3 * (j - i) + 1, m + 3 * (j - i) + 2⟩) ∧
      Mth.Evn (fun k => laws_markClueS.l0 k xs m i) (m + 3 * d, r)
  | 0, xs, m, i, hx, h0, hi, hm, hb => by
    refine ⟨xs, rfl, fun j _ _ => rfl, fun j h1 h2 => by omega, ?_⟩
    refine (Mth.Evn.now _).step fun k => ?_
    simp only [laws_markClueS.l0]; rw [if_neg (by omega)]
    simp
  | d + 1, xs, m, i, hx, h0, hi, hm, hb => by
    have hlt : i.toNat < xs.length := by omega
    obtain ⟨r, hr, hlo, hhi, hev⟩ := markClueS_l0 d (xs.set i.toNat ⟨m, m + 1, m + 2⟩) (m + 3) (i + 1) (by simpa using hx) (by omega) (by simp; omega) (by omega) (by omega)
    refine ⟨r, by simpa using hr, fun j h1 h2 => ?_, fun j h1 h2 => ?_, ?_⟩
    · rw [hlo j h1 (by omega), rdc_set_ne _ _ _ _ (by omega)]
    · by_cases e : j = i
      · subst e
        rw [hlo j h0 (by omega), rdc_set _ _ _ hlt]
        simp
      · rw [hhi j (by omega) (by simpa using h2), show m + 3 + 3 * (j - (i + 1)) = m + 3 * (j - i) by omega]
    · rw [show m + 3 * ((d + 1 : Nat) : Int) = m + 3 + 3 * (d : Int) by omega]
      refine hev.step fun k => ?_
      simp only [laws_markClueS.l0]
      rw [if_pos (by omega), if_pos h0]
      simp only [Option.bind_some]
      rw [rdc_set _ _ _ hlt, rdc_set _ _ _ (by simpa using hlt), List.set_set, List.set_set, wrap_id (x := m + 1) (by omega) (by omega), wrap_id (x := m + 1 + 1) (by omega) (by omega), wrap_id (x := m + 1 + 1 + 1) (by omega) (by omega), wrap_id (x := i + 1) (by omega) (by omega), show m + 1 + 1 = m + 2 by omega, show m + 2 + 1 = m + 3 by omega]
theorem heldClueS_l0 (r : List S38) (m0 : Int) (hgood : ∀ j : Int, 0 ≤ j → j < r.length → rd_T38 r j = ⟨m0 + 3 * j, m0 + 3 * j + 1, m0 + 3 * j + 2⟩) (hm : 0 ≤ m0) (hb : m0 + 3 * r.length ≤ 4000000) : ∀ (d : Nat) (i : Int), 0 ≤ i → i + d = r.length →
    Mth.Evn (fun k => laws_heldClueS.l0 k r (m0 + 3 * i) i) (m0 + 3 * r.length)
  | 0, i, h0, hi => by
    refine (Mth.Evn.now _).step fun k => ?_
    simp only [laws_heldClueS.l0]; rw [if_neg (by omega)]
    congr 1; omega
  | d + 1, i, h0, hi => by
    have ih := heldClueS_l0 r m0 hgood hm hb d (i + 1) (by omega) (by omega)
    refine ih.step fun k => ?_
    simp only [laws_heldClueS.l0]
    rw [if_pos (by omega), if_pos h0, hgood i h0 (by omega)]
    rw [wrap_id (x := m0 + 3 * i + 1) (by omega) (by omega), wrap_id (x := m0 + 3 * i + 1 + 1) (by omega) (by omega), wrap_id (x := m0 + 3 * i + 1 + 1 + 1) (by omega) (by omega), wrap_id (x := i + 1) (by omega) (by omega)]
    simp only
    rw [if_pos trivial, if_pos trivial, if_pos (by omega), show m0 + 3 * i + 1 + 1 + 1 = m0 + 3 * (i + 1) by omega]
/-- What is marked is held. -/
theorem mark_held_clue (xs : List S38) (hl : xs.length ≤ 1048576) :
    ∃ r : List S38, Mth.Evn (fun k => laws_markClueS.f k xs 1) (1 + 3 * xs.length, r) ∧ Mth.Evn (fun k => laws_heldClueS.f k r 1) (1 + 3 * xs.length) := by
  obtain ⟨r, hr, _, hhi, hev⟩ := markClueS_l0 xs.length xs 1 0 hl (by omega) (by omega) (by omega) (by omega)
  refine ⟨r, hev, ?_⟩
  have := heldClueS_l0 r 1 (fun j h1 h2 => by rw [hhi j h1 (by omega)]; simp) (by omega) (by omega) r.length 0 (by omega) (by omega)
  rw [hr] at this
  exact this
theorem eqPuzzle_ev (o : Int) (xs : List S38) (hl : xs.length ≤ 1048576) : Mth.Evn (fun k => laws_eqPuzzle.f k o xs o xs) true := by
  unfold laws_eqPuzzle.f
  refine Mth.Evn.congr (fun k => if_pos rfl) ?_
  exact (eqClueS_ev xs hl).bind (Mth.Evn.now _)
theorem mark_held_puzzle (o : Int) (xs : List S38) (hl : xs.length ≤ 1048576) :
    ∃ (m : Int) (r : List S38), 0 ≤ m ∧ Mth.Evn (fun k => laws_markPuzzle.f k o xs 1) (m, r) ∧ Mth.Evn (fun k => laws_heldPuzzle.f k o r 1) m := by
  obtain ⟨r, h1, h2⟩ := mark_held_clue xs hl
  refine ⟨1 + 3 * xs.length, r, by omega, ?_, ?_⟩
  · unfold laws_markPuzzle.f
    exact h1.bind (Mth.Evn.now _)
  · unfold laws_heldPuzzle.f
    refine h2.bind ?_
    refine Mth.Evn.congr (fun k => ?_) (Mth.Evn.now _)
    rw [if_neg (by omega)]
theorem n46 (n : Nat) : (46 : UInt8) ∉ Lib.decDigits n := no_sep (by decide) n
theorem n44 (n : Nat) : (44 : UInt8) ∉ Lib.decDigits n := no_sep (by decide) n
theorem n58 (n : Nat) : (58 : UInt8) ∉ Lib.decDigits n := no_sep (by decide) n
theorem pre {α β : Type} {f : Option α} {a : α} {F : Nat → α → Option β} {r : β} (h : f = some a) (hE : Mth.Evn (fun k => F k a) r) : Mth.Evn (fun k => f.bind (F k)) r := by
  subst h; exact hE
/-- Words with a sign between, put together. -/
def joinC (c : UInt8) : List (List UInt8) → List UInt8
  | [] => []
  | [x] => x
  | x :: y :: l => x ++ c :: joinC c (y :: l)
theorem joinC_cons (c : UInt8) (x : List UInt8) {L : List (List UInt8)} (h : L ≠ []) : joinC c (x :: L) = x ++ c :: joinC c L := by
  cases L with
  | nil => exact absurd rfl h
  | cons y l => rfl
theorem pieces_ne (c : UInt8) (s cur : List UInt8) : pieces c cur s ≠ [] := fun e => by
  have := pieces_pos (c := c) s cur
  rw [e] at this
  exact absurd this (by simp)
theorem join_pieces (c : UInt8) : ∀ (s cur : List UInt8), joinC c (pieces c cur s) = cur ++ s
  | [], cur => by rw [pieces, List.append_nil]; rfl
  | b :: s, cur => by
    rw [pieces]
    split
    · rename_i h
      rw [joinC_cons _ _ (pieces_ne c s []), join_pieces c s [], h]; rfl
    · rw [join_pieces c s (cur ++ [b]), List.append_assoc]; rfl
theorem pieces_join (c : UInt8) : ∀ (L : List (List UInt8)), L ≠ [] → (∀ w, w ∈ L → c ∉ w) → pieces c [] (joinC c L) = L
  | [], h, _ => absurd rfl h
  | [x], _, h => pieces_none [] (h x List.mem_cons_self)
  | x :: y :: l, _, h => by
    rw [joinC_cons c x (by simp), pieces_at _ _ (h x List.mem_cons_self), pieces_join c (y :: l) (by simp) (fun w hw => h w (List.mem_cons_of_mem _ hw))]; rfl
/-- A clue's word. -/
def wl (x : S38) : List UInt8 := Lib.decDigits x.f0.toNat ++ 46 :: (Lib.decDigits x.f1.toNat ++ 46 :: Lib.decDigits x.f2.toNat)
theorem wB_list (x : S38) : (wB x).data.toList = wl x := by
  unfold wB wl
  rw [app_list, app_list, app_list, app_list]
  show Lib.decDigits x.f0.toNat ++ [46] ++ Lib.decDigits x.f1.toNat ++ [46] ++ Lib.decDigits x.f2.toNat = _
  simp
theorem txt_join : ∀ l : List S38, txt l = joinC 44 (l.map wl)
  | [] => rfl
  | [x] => by
    show (wB x).data.toList ++ tl44 [] = wl x
    rw [wB_list]; unfold tl44; simp
  | x :: y :: l => by
    have ih := txt_join (y :: l)
    rw [List.map_cons, joinC_cons _ _ (by simp), ← ih, ← wB_list x]
    show (wB x).data.toList ++ tl44 (y :: l) = (wB x).data.toList ++ 44 :: txt (y :: l)
    refine congrArg (fun z => (wB x).data.toList ++ z) ?_
    unfold tl44 txt
    rw [List.flatMap_cons]; rfl
theorem wl_46 (x : S38) : pieces 46 [] (wl x) = [x.f0.toNat, x.f1.toNat, x.f2.toNat].map Lib.decDigits := by
  unfold wl
  rw [pieces_at _ _ (n46 _), pieces_at _ _ (n46 _), pieces_none _ (n46 _)]; rfl
theorem wl_no {c : UInt8} (h : ¬ (48 ≤ c.toNat ∧ c.toNat ≤ 57)) (h2 : c ≠ 46) (x : S38) : c ∉ wl x := by
  unfold wl
  intro e
  rcases List.mem_append.1 e with e | e
  · exact no_sep h _ e
  rcases List.mem_cons.1 e with e | e
  · exact h2 e
  rcases List.mem_append.1 e with e | e
  · exact no_sep h _ e
  rcases List.mem_cons.1 e with e | e
  · exact h2 e
  · exact no_sep h _ e
theorem joinC_no {c d : UInt8} (hd : c ≠ d) : ∀ L : List (List UInt8), (∀ w, w ∈ L → c ∉ w) → c ∉ joinC d L
  | [], _ => by simp [joinC]
  | [x], h => h x List.mem_cons_self
  | x :: y :: l, h => by
    rw [joinC_cons d x (by simp)]
    intro e
    rcases List.mem_append.1 e with e | e
    · exact h x List.mem_cons_self e
    rcases List.mem_cons.1 e with e | e
    · exact hd e
    · exact joinC_no hd (y :: l) (fun w hw => h w (List.mem_cons_of_mem _ hw)) e
theorem txt_58 (l : List S38) : (58 : UInt8) ∉ txt l := by
  rw [txt_join]
  refine joinC_no (by decide) _ (fun w hw => ?_)
  obtain ⟨x, _, rfl⟩ := List.mem_map.1 hw
  exact wl_no (by decide) (by decide) x
theorem txt_44 {l : List S38} (h : l ≠ []) : pieces 44 [] (txt l) = l.map wl := by
  rw [txt_join]
  refine pieces_join 44 _ (by simpa using h) (fun w hw => ?_)
  obtain ⟨x, _, rfl⟩ := List.mem_map.1 hw
  exact wl_no (by decide) (by decide) x
theorem wl_ne (x : S38) : wl x ≠ [] := by unfold wl; simp
theorem txt_ne {l : List S38} (h : l ≠ []) : txt l ≠ [] := by
  cases l with
  | nil => exact absurd rfl h
  | cons x l =>
    show (wB x).data.toList ++ tl44 l ≠ []
    rw [wB_list]
    intro e
    exact wl_ne x (List.append_eq_nil_iff.1 e).1
/-- A puzzle's text. -/
def P (o : Int) (l : List S38) : List UInt8 := Lib.decDigits o.toNat ++ 58 :: txt l
theorem P_58 (o : Int) (l : List S38) : pieces 58 [] (P o l) = [Lib.decDigits o.toNat, txt l] := by
  unfold P
  rw [pieces_at _ _ (n58 _), pieces_none _ (txt_58 l)]; rfl
theorem good_of {o : Int} {l : List S38} (h : goodP o l = true) : (1 ≤ o ∧ o ≤ 8) ∧ l.length ≤ 6 ∧ ∀ x, x ∈ l → small x := by
  unfold goodP at h
  simp only [Bool.and_eq_true, decide_eq_true_eq, List.all_eq_true] at h
  obtain ⟨h1, h2, h3⟩ := h
  refine ⟨h1, h2, fun x hx => ?_⟩
  obtain ⟨c1, c2, c3⟩ := h3 x hx
  exact ⟨by omega, c1, c2⟩
theorem P_len {o : Int} {l : List S38} (h : goodP o l = true) : (P o l).length ≤ 100 := by
  obtain ⟨h1, h2, h3⟩ := good_of h
  have := txt_len l h3
  have := dec_len3 (n := o.toNat) (by omega)
  unfold P
  rw [List.length_append, List.length_cons]; omega
/-! The reference model. -/
/-- Where all clues are read: are they a puzzle's, and is this its text? -/
def specEnd (k : Nat) (t : ByteArray) (o : Int) (l : List S38) : Option (Int × List S38 × Bool) := (spec_pzGood.f k o l).bind fun t146 => (if t146 = true then ((spec_pzText.f k o l).bind fun t147 => (some (o, l, (t147.toList == t.toList)))) else (some (o, l, false)))
theorem end_yes {t : ByteArray} {o : Int} {l : List S38} (h : goodP o l = true) (ht : t.data.toList = P o l) : Mth.Evn (fun k => specEnd k t o l) (o, l, true) := by
  obtain ⟨h1, h2, h3⟩ := good_of h
  have hg := pzGood_evn o l
  rw [h] at hg
  unfold specEnd
  refine hg.bind ?_
  refine Mth.Evn.congr (fun k => if_pos rfl) ?_
  refine (pzText_ev (o := o) (by omega) (by omega) l h2 h3).bind ?_
  have e : ((⟨((dig o.toNat).data.toList ++ [58] ++ txt l).toArray⟩ : ByteArray).toList == t.toList) = true := by
    rw [beq_iff_eq, dtl, dtl, ht]
    unfold P
    show Lib.decDigits o.toNat ++ [58] ++ txt l = _
    simp
  rw [e]
  exact Mth.Evn.now _
theorem end_any (t : ByteArray) (o : Int) (l : List S38) : ∃ r, Mth.Evn (fun k => specEnd k t o l) r ∧ (r.2.2 = true → goodP r.1 r.2.1 = true ∧ t.data.toList = P r.1 r.2.1) := by
  have hg := pzGood_evn o l
  cases h : goodP o l with
  | false =>
    rw [h] at hg
    refine ⟨(o, l, false), ?_, fun e => by cases e⟩
    unfold specEnd
    exact hg.bind (Mth.Evn.congr (fun k => if_neg (by simp)) (Mth.Evn.now _))
  | true =>
    rw [h] at hg
    obtain ⟨h1, h2, h3⟩ := good_of h
    have hp := pzText_ev (o := o) (by omega) (by omega) l h2 h3
    refine ⟨(o, l, ((⟨((dig o.toNat).data.toList ++ [58] ++ txt l).toArray⟩ : ByteArray).toList == t.toList)), ?_, ?_⟩
    · unfold specEnd
      exact hg.bind (Mth.Evn.congr (fun k => if_pos rfl) (hp.bind (Mth.Evn.now _)))
    · intro e
      have e2 := beq_iff_eq.1 (show ((⟨((dig o.toNat).data.toList ++ [58] ++ txt l).toArray⟩ : ByteArray).toList == t.toList) = true from e)
      rw [dtl, dtl] at e2
      refine ⟨h, ?_⟩
      rw [← e2]
      unfold P
      show Lib.decDigits o.toNat ++ [58] ++ txt l = _
      simp
theorem mkB_map (l : List S38) (f : S38 → List UInt8) : (l.map f).map mkB = l.map fun x => mkB (f x) := by rw [List.map_map]; rfl
theorem rd_map {l : List S38} {i : Nat} (h : i < l.length) (f : S38 → ByteArray) : rdOf ByteArray.empty (l.map f) (i : Int) = f l[i] := by
  unfold rdOf
  rw [List.getD_eq_getElem?_getD, Int.toNat_natCast, List.getElem?_map, List.getElem?_eq_getElem h]; rfl
theorem rd_at {L : List ByteArray} {i : Nat} (h : i < L.length) : rdOf ByteArray.empty L (i : Int) = L[i] := by
  unfold rdOf
  rw [List.getD_eq_getElem?_getD, Int.toNat_natCast, List.getElem?_eq_getElem h]; rfl
theorem clue_back {x : S38} (h : small x) : (⟨((x.f0.toNat : Nat) : Int), ((x.f1.toNat : Nat) : Int), ((x.f2.toNat : Nat) : Int)⟩ : S38) = x := by
  obtain ⟨h0, h1, h2⟩ := h
  rw [show ((x.f0.toNat : Nat) : Int) = x.f0 by omega, show ((x.f1.toNat : Nat) : Int) = x.f1 by omega, show ((x.f2.toNat : Nat) : Int) = x.f2 by omega]
theorem small_nat {x : S38} (h : small x) : x.f0.toNat ≤ 100 ∧ x.f1.toNat ≤ 100 ∧ x.f2.toNat ≤ 100 := by
  obtain ⟨h0, h1, h2⟩ := h
  omega
theorem wl_size {x : S38} (h : small x) : (mkB (wl x)).size ≤ 11 := by
  have := wB_size h
  rw [size_list, wB_list] at this
  exact this
theorem specLoop_yes {t : ByteArray} {o : Int} {l : List S38} (h : goodP o l = true) (ht : t.data.toList = P o l) : ∀ (d i : Nat), i + d = l.length →
    Mth.Evn (fun k => spec_pzParse.l0 k t (l.map fun x => mkB (wl x)) (l.length : Int) i o (l.take i)) (o, l, true)
  | 0, i, hi => by
    refine (end_yes h ht).step fun k => ?_
    simp only [spec_pzParse.l0]
    rw [if_neg (by omega), List.take_of_length_le (by omega)]
    rfl
  | d + 1, i, hi => by
    obtain ⟨h1, h2, h3⟩ := good_of h
    have hlt : i < l.length := by omega
    have hx := h3 _ (List.getElem_mem hlt)
    obtain ⟨x0, x1, x2⟩ := small_nat hx
    have ih := specLoop_yes h ht d (i + 1) (by omega)
    have hs := l1Split_ev (t := mkB (wl l[i])) (by have := wl_size hx; omega) 46
    rw [mkB_list, wl_46] at hs
    have ew : wrap64 ((i : Int) + 1) = ((i + 1 : Nat) : Int) := by rw [wrap_id (by omega) (by omega)]; omega
    have et : l.take i ++ [(⟨((l[i].f0.toNat : Nat) : Int), ((l[i].f1.toNat : Nat) : Int), ((l[i].f2.toNat : Nat) : Int)⟩ : S38)] = l.take (i + 1) := by
      rw [clue_back hx, List.take_add_one, List.getElem?_eq_getElem hlt]; rfl
    refine Mth.Evn.step (fun k => by simp only [spec_pzParse.l0, rd_map hlt]; rw [if_pos (by omega), if_pos (by omega), if_pos (by simp; omega)]) ?_
    refine hs.bind ?_
    refine Mth.Evn.congr (fun k => (if_pos (by simp)).trans (if_pos (by simp))) ?_
    refine (read_yes x0).bind ?_
    refine Mth.Evn.congr (fun k => if_pos (by simp)) ?_
    refine (read_yes x1).bind ?_
    refine Mth.Evn.congr (fun k => if_pos (by simp)) ?_
    refine (read_yes x2).bind ?_
    refine Mth.Evn.congr (fun k => if_pos (by rw [List.length_take]; omega)) ?_
    rw [ew, et]
    exact ih
theorem specLoop_any (t : ByteArray) (W : List ByteArray) (hW : W.length ≤ 2000000) (hs : ∀ w, w ∈ W → w.size ≤ 2000000) : ∀ (d i : Nat) (o : Int) (acc : List S38), i + d = W.length → acc.length = i →
    ∃ r, Mth.Evn (fun k => spec_pzParse.l0 k t W (W.length : Int) i o acc) r ∧ (r.2.2 = true → goodP r.1 r.2.1 = true ∧ t.data.toList = P r.1 r.2.1)
  | 0, i, o, acc, hi, ha => by
    obtain ⟨r, hr, hb⟩ := end_any t o acc
    refine ⟨r, hr.step fun k => ?_, hb⟩
    simp only [spec_pzParse.l0]
    rw [if_neg (by omega)]
    rfl
  | d + 1, i, o, acc, hi, ha => by
    have hlt : i < W.length := by omega
    have ew : wrap64 ((i : Int) + 1) = ((i + 1 : Nat) : Int) := by rw [wrap_id (by omega) (by omega)]; omega
    have hw := l1Split_ev (t := W[i]) (hs _ (List.getElem_mem hlt)) 46
    by_cases hl : (pieces 46 [] (W[i]).data.toList).length = 3
    · match hp : pieces 46 [] (W[i]).data.toList, hl with
      | [a, b, c], _ =>
        rw [hp] at hw
        obtain ⟨ra, ea, _⟩ := read_back (mkB a)
        obtain ⟨rb, eb, _⟩ := read_back (mkB b)
        obtain ⟨rc, ec, _⟩ := read_back (mkB c)
        obtain ⟨r, hr, hb⟩ := specLoop_any t W hW hs d (i + 1) o (acc ++ [⟨ra, rb, rc⟩]) (by omega) (by simp; omega)
        refine ⟨r, ?_, hb⟩
        refine Mth.Evn.step (fun k => by simp only [spec_pzParse.l0, rd_at hlt]; rw [if_pos (by omega), if_pos (by omega), if_pos (by omega)]) ?_
        refine hw.bind ?_
        refine Mth.Evn.congr (fun k => (if_pos (by simp)).trans (if_pos (by simp))) ?_
        refine ea.bind ?_
        refine Mth.Evn.congr (fun k => if_pos (by simp)) ?_
        refine eb.bind ?_
        refine Mth.Evn.congr (fun k => if_pos (by simp)) ?_
        refine ec.bind ?_
        refine Mth.Evn.congr (fun k => if_pos (by omega)) ?_
        rw [ew]
        exact hr
    · refine ⟨(0, [], false), ?_, fun e => by cases e⟩
      refine Mth.Evn.step (fun k => by simp only [spec_pzParse.l0, rd_at hlt]; rw [if_pos (by omega), if_pos (by omega), if_pos (by omega)]) ?_
      refine hw.bind ?_
      exact Mth.Evn.congr (fun k => if_neg (by rw [List.length_map]; omega)) (Mth.Evn.now _)
theorem ps_yes {t : ByteArray} {o : Int} {l : List S38} (h : goodP o l = true) (ht : t.data.toList = P o l) : Mth.Evn (fun k => spec_ParsePuzzle.f k t) (o, l, true) := by
  have hl := size_list t
  have hz := P_len h
  rw [ht] at hl
  obtain ⟨h1, h2, h3⟩ := good_of h
  have h100 : ¬ (t.size : Int) > 100 := by omega
  have s58 := l1Split_ev (t := t) (by omega) 58
  rw [ht, P_58] at s58
  have htx := txt_len l h3
  have hr := read_yes (n := o.toNat) (by omega)
  rw [show ((o.toNat : Nat) : Int) = o by omega] at hr
  have main : Mth.Evn (fun k => spec_pzParse.f k t) (o, l, true) := by
    unfold spec_pzParse.f
    refine s58.bind ?_
    refine Mth.Evn.congr (fun k => if_neg h100) ?_
    refine Mth.Evn.step (fun k => by simp only [spec_pzParse.j0]; rw [if_neg (by simp), if_pos (by simp)]) ?_
    refine hr.bind ?_
    refine Mth.Evn.congr (fun k => if_pos (by simp)) ?_
    have e1 : ∀ a b : ByteArray, rdOf ByteArray.empty [a, b] 1 = b := fun a b => rfl
    by_cases hc : l = []
    · subst hc
      refine Mth.Evn.congr (fun k => if_neg ?_) (end_yes h ht)
      show ¬ (((mkB (txt ([] : List S38))).size : Int) > 0)
      rw [mkB_size]
      simp [txt]
    · have hne : 0 < (txt l).length := List.length_pos_iff.2 (txt_ne hc)
      refine Mth.Evn.congr (fun k => if_pos (show ((mkB (txt l)).size : Int) > 0 by rw [mkB_size]; omega)) ?_
      have s44 := l1Split_ev (t := mkB (txt l)) (by rw [mkB_size]; omega) 44
      rw [mkB_list, txt_44 hc, mkB_map] at s44
      refine s44.bind ?_
      have hlp := specLoop_yes h ht l.length 0 (by omega)
      rw [List.take_zero] at hlp
      rw [List.length_map]
      exact hlp
  unfold spec_ParsePuzzle.f
  exact main.bind (Mth.Evn.congr (fun k => if_pos rfl) (Mth.Evn.now _))
theorem ps_any {t : ByteArray} (hz : t.size ≤ 2000000) : ∃ r, Mth.Evn (fun k => spec_ParsePuzzle.f k t) r ∧ (r = (0, [], false) ∨ (goodP r.1 r.2.1 = true ∧ t.data.toList = P r.1 r.2.1)) := by
  have main : ∃ r, Mth.Evn (fun k => spec_pzParse.f k t) r ∧ (r.2.2 = true → goodP r.1 r.2.1 = true ∧ t.data.toList = P r.1 r.2.1) := by
    have jt : ∀ L, Mth.Evn (fun k => spec_pzParse.j0 k t L true) (0, [], false) := fun L => (Mth.Evn.now _).step fun k => by simp only [spec_pzParse.j0]; rw [if_pos trivial]
    have s58 := l1Split_ev hz 58
    unfold spec_pzParse.f
    by_cases h8 : (t.size : Int) > 100
    · exact ⟨_, s58.bind (Mth.Evn.congr (fun k => if_pos h8) (jt _)), fun e => by cases e⟩
    by_cases hl : (pieces 58 [] t.data.toList).length = 2
    · match hp : pieces 58 [] t.data.toList, hl with
      | [p, q], _ =>
        have hpq := pieces_two hp
        have hsz := size_list t
        rw [hpq] at hsz
        simp at hsz
        rw [hp] at s58
        obtain ⟨o, ho, _⟩ := read_back (mkB p)
        by_cases hq : (q.length : Int) > 0
        · have s44 := l1Split_ev (t := mkB q) (by rw [mkB_size]; omega) 44
          rw [mkB_list] at s44
          have hw := pieces_len (c := 44) q []
          obtain ⟨r, hr, hb⟩ := specLoop_any t ((pieces 44 [] q).map mkB) (by rw [List.length_map]; omega) (fun w hw => by
            obtain ⟨v, hv, rfl⟩ := List.mem_map.1 hw
            have := pieces_piece _ _ _ hv
            rw [mkB_size]
            simp at this; omega) ((pieces 44 [] q).map mkB).length 0 o [] (by omega) rfl
          refine ⟨r, ?_, hb⟩
          refine s58.bind ?_
          refine Mth.Evn.congr (fun k => if_neg h8) ?_
          refine Mth.Evn.step (fun k => by simp only [spec_pzParse.j0]; rw [if_neg (by simp), if_pos (by simp)]) ?_
          refine ho.bind ?_
          refine Mth.Evn.congr (fun k => (if_pos (by simp)).trans (if_pos hq)) ?_
          refine s44.bind ?_
          exact hr
        · obtain ⟨r, hr, hb⟩ := end_any t o []
          refine ⟨r, ?_, hb⟩
          refine s58.bind ?_
          refine Mth.Evn.congr (fun k => if_neg h8) ?_
          refine Mth.Evn.step (fun k => by simp only [spec_pzParse.j0]; rw [if_neg (by simp), if_pos (by simp)]) ?_
          refine ho.bind ?_
          exact Mth.Evn.congr (fun k => (if_pos (by simp)).trans (if_neg hq)) hr
    · refine ⟨_, s58.bind (Mth.Evn.congr (fun k => (if_neg h8).trans ?_) (jt ((pieces 58 [] t.data.toList).map mkB))), fun e => by cases e⟩
      rw [show ((((pieces 58 [] t.data.toList).map mkB).length : Int) != 2) = true from bne_iff_ne.2 (by rw [List.length_map]; omega)]
  obtain ⟨⟨o, l, b⟩, hr, hb⟩ := main
  unfold spec_ParsePuzzle.f
  cases b with
  | true => exact ⟨(o, l, true), hr.bind (Mth.Evn.congr (fun k => if_pos rfl) (Mth.Evn.now _)), .inr (hb rfl)⟩
  | false => exact ⟨(0, [], false), hr.bind (Mth.Evn.congr (fun k => if_neg (by simp)) (Mth.Evn.now _)), .inl rfl⟩
/-! The program. -/
theorem cut_eq {t : ByteArray} (ht : t.size ≤ 2000000) (c : UInt8) {x y : List UInt8} {f : Bool} (h : Lib.cut t.data.toList [c] = (x, y, f)) : strings_Cut.f t (sepB c) = some (mkB x, mkB y, f) := by
  unfold strings_Cut.f
  rw [if_pos (by omega)]
  show some ((⟨(Lib.cut t.data.toList [c]).1.toArray⟩ : ByteArray), (⟨(Lib.cut t.data.toList [c]).2.1.toArray⟩ : ByteArray), (Lib.cut t.data.toList [c]).2.2) = _
  rw [h]; rfl
theorem split_eq {t : ByteArray} (ht : t.size ≤ 2000000) (c : UInt8) : strings_Split.f t (sepB c) = some ((pieces c [] t.data.toList).map mkB) := by
  unfold strings_Split.f
  rw [if_pos ⟨by omega, Nat.le_refl 1⟩, split_pieces c t.size t (Nat.le_refl _)]
theorem isP_yes {o : Int} {l : List S38} (h : goodP o l = true) : Mth.Evn (fun k => (impl_IsPuzzle.f k o l).bind fun t215 => (if t215 = true then (some (o, l, true)) else (some (0, ([] : List S38), false)))) (o, l, true) := by
  have hg := IsPuzzle_evn o l
  rw [h] at hg
  exact hg.bind (Mth.Evn.congr (fun k => if_pos rfl) (Mth.Evn.now _))
theorem isP_any (o : Int) (l : List S38) : ∃ r, Mth.Evn (fun k => (impl_IsPuzzle.f k o l).bind fun t215 => (if t215 = true then (some (o, l, true)) else (some (0, ([] : List S38), false)))) r ∧ (r = (0, [], false) ∨ (goodP o l = true ∧ r = (o, l, true))) := by
  cases h : goodP o l with
  | true => exact ⟨_, isP_yes h, .inr ⟨rfl, rfl⟩⟩
  | false =>
    have hg := IsPuzzle_evn o l
    rw [h] at hg
    exact ⟨_, hg.bind (Mth.Evn.congr (fun k => if_neg (by simp)) (Mth.Evn.now _)), .inl rfl⟩
theorem implLoop_yes {o : Int} {l : List S38} (h : goodP o l = true) : ∀ (d i : Nat), i + d = l.length →
    Mth.Evn (fun k => impl_ParsePuzzle.l0 k (l.map fun x => mkB (wl x)) (l.length : Int) i o (l.take i)) (o, l, true)
  | 0, i, hi => by
    refine (isP_yes h).step fun k => ?_
    simp only [impl_ParsePuzzle.l0]
    rw [if_neg (by omega), List.take_of_length_le (by omega)]
  | d + 1, i, hi => by
    obtain ⟨h1, h2, h3⟩ := good_of h
    have hlt : i < l.length := by omega
    have hx := h3 _ (List.getElem_mem hlt)
    obtain ⟨x0, x1, x2⟩ := small_nat hx
    have ih := implLoop_yes h d (i + 1) (by omega)
    have hs := nums_yes (t := mkB (wl l[i])) (c := 46) (by have := wl_size hx; omega) (by rw [mkB_list]; exact wl_46 l[i]) (fun n hn => by
      rcases List.mem_cons.1 hn with rfl | hn
      · exact x0
      rcases List.mem_cons.1 hn with rfl | hn
      · exact x1
      · rw [List.mem_singleton] at hn; subst hn; exact x2)
    have ew : wrap64 ((i : Int) + 1) = ((i + 1 : Nat) : Int) := by rw [wrap_id (by omega) (by omega)]; omega
    have et : l.take i ++ [(⟨((l[i].f0.toNat : Nat) : Int), ((l[i].f1.toNat : Nat) : Int), ((l[i].f2.toNat : Nat) : Int)⟩ : S38)] = l.take (i + 1) := by
      rw [clue_back hx, List.take_add_one, List.getElem?_eq_getElem hlt]; rfl
    refine Mth.Evn.step (fun k => by simp only [impl_ParsePuzzle.l0, rd_map hlt]; rw [if_pos (by omega), if_pos (by omega), if_pos (by simp; omega)]) ?_
    refine hs.bind ?_
    refine Mth.Evn.congr (fun k => (if_pos rfl).trans ((if_pos (by simp)).trans ((if_pos (by simp)).trans ((if_pos (by simp)).trans ((if_pos (by simp)).trans (if_pos (by rw [List.length_take]; omega))))))) ?_
    rw [ew]
    show Mth.Evn (fun k => impl_ParsePuzzle.l0 k (l.map fun x => mkB (wl x)) (l.length : Int) ((i + 1 : Nat) : Int) o (l.take i ++ [(⟨((l[i].f0.toNat : Nat) : Int), ((l[i].f1.toNat : Nat) : Int), ((l[i].f2.toNat : Nat) : Int)⟩ : S38)])) (o, l, true)
    rw [et]
    exact ih
theorem implLoop_any (W : List ByteArray) (hW : W.length ≤ 2000000) (hs : ∀ w, w ∈ W → w.size ≤ 2000000) : ∀ (d i : Nat) (o : Int) (acc : List S38), i + d = W.length → acc.map wl = (W.take i).map (fun b => b.data.toList) →
    ∃ r, Mth.Evn (fun k => impl_ParsePuzzle.l0 k W (W.length : Int) i o acc) r ∧ (r = (0, [], false) ∨ ∃ l, goodP o l = true ∧ r = (o, l, true) ∧ l.map wl = W.map (fun b => b.data.toList))
  | 0, i, o, acc, hi, ha => by
    obtain ⟨r, hr, hb⟩ := isP_any o acc
    refine ⟨r, hr.step fun k => ?_, ?_⟩
    · simp only [impl_ParsePuzzle.l0]
      rw [if_neg (by omega)]
    · rcases hb with hb | ⟨h1, h2⟩
      · exact .inl hb
      · rw [List.take_of_length_le (by omega)] at ha
        exact .inr ⟨acc, h1, h2, ha⟩
  | d + 1, i, o, acc, hi, ha => by
    have hlt : i < W.length := by omega
    have hal : acc.length = i := by
      have := congrArg List.length ha
      rw [List.length_map, List.length_map, List.length_take] at this
      omega
    have ew : wrap64 ((i : Int) + 1) = ((i + 1 : Nat) : Int) := by rw [wrap_id (by omega) (by omega)]; omega
    obtain ⟨xs, b, hx, hb⟩ := nums_back (t := W[i]) (hs _ (List.getElem_mem hlt)) 46
    have h0 : ∀ r, Mth.Evn (fun k => if b = true then (if (xs.length : Int) = 3 then (if 0 < (xs.length : Int) then (if 1 < (xs.length : Int) then (if 2 < (xs.length : Int) then (if acc.length < 5864062014805 then (impl_ParsePuzzle.l0 k W (W.length : Int) (wrap64 ((i : Int) + 1)) o (acc ++ [(⟨rd xs 0, rd xs 1, rd xs 2⟩ : S38)])) else (none)) else (none)) else (none)) else (none)) else (some (0, ([] : List S38), false))) else (some (0, ([] : List S38), false))) r → Mth.Evn (fun k => impl_ParsePuzzle.l0 k W (W.length : Int) i o acc) r := fun r hr => by
      refine Mth.Evn.step (fun k => by simp only [impl_ParsePuzzle.l0, rd_at hlt]; rw [if_pos (by omega), if_pos (by omega), if_pos (by omega)]) ?_
      exact hx.bind hr
    cases b with
    | false => exact ⟨_, h0 _ (Mth.Evn.congr (fun k => if_neg (by simp)) (Mth.Evn.now _)), .inl rfl⟩
    | true =>
      by_cases hl : xs.length = 3
      · obtain ⟨_, ns, e1, e2⟩ := hb rfl
        have hns : ns.length = 3 := by rw [e1, List.length_map] at hl; exact hl
        match ns, hns with
        | [a, b, c], _ =>
          have ex : (⟨rd xs 0, rd xs 1, rd xs 2⟩ : S38) = ⟨(a : Int), (b : Int), (c : Int)⟩ := by rw [e1]; rfl
          have hj := join_pieces 46 (W[i]).data.toList []
          rw [e2, List.nil_append] at hj
          obtain ⟨r, hr, hq⟩ := implLoop_any W hW hs d (i + 1) o (acc ++ [⟨(a : Int), (b : Int), (c : Int)⟩]) (by omega) (by
            rw [List.map_append, ha, List.take_add_one, List.map_append, List.getElem?_eq_getElem hlt]
            refine congrArg (fun z => _ ++ z) ?_
            show [wl ⟨(a : Int), (b : Int), (c : Int)⟩] = [(W[i]).data.toList]
            rw [← hj]
            unfold wl
            rw [Int.toNat_natCast, Int.toNat_natCast, Int.toNat_natCast]
            rfl)
          refine ⟨r, h0 _ ?_, hq⟩
          refine Mth.Evn.congr (fun k => (if_pos rfl).trans ((if_pos (by omega)).trans ((if_pos (by omega)).trans ((if_pos (by omega)).trans ((if_pos (by omega)).trans (if_pos (by omega))))))) ?_
          rw [ew, ex]
          exact hr
      · exact ⟨_, h0 _ (Mth.Evn.congr (fun k => (if_pos rfl).trans (if_neg (by omega))) (Mth.Evn.now _)), .inl rfl⟩
theorem pi_yes {t : ByteArray} {o : Int} {l : List S38} (h : goodP o l = true) (ht : t.data.toList = P o l) : Mth.Evn (fun k => impl_ParsePuzzle.f k t) (o, l, true) := by
  have hl := size_list t
  have hz := P_len h
  rw [ht] at hl
  obtain ⟨h1, h2, h3⟩ := good_of h
  have htx := txt_len l h3
  have hdo := dec_len3 (n := o.toNat) (by omega)
  have eo : ((o.toNat : Nat) : Int) = o := by omega
  have hcut := cut_eq (t := t) (by omega) 58 (x := Lib.decDigits o.toNat) (y := txt l) (f := true) (by rw [ht]; exact cut1 (n58 _))
  have hn := nums_yes (t := mkB (Lib.decDigits o.toNat)) (c := 44) (ns := [o.toNat]) (by rw [mkB_size]; omega) (by rw [mkB_list, pieces_none _ (n44 _)]; rfl) (fun n hn => by rw [List.mem_singleton] at hn; omega)
  have hj : Mth.Evn (fun k => impl_ParsePuzzle.j0 k (mkB (txt l)) [((o.toNat : Nat) : Int)] false) (o, l, true) := by
    refine Mth.Evn.step (fun k => by simp only [impl_ParsePuzzle.j0]; rw [if_neg (by simp), if_pos (by simp)]) ?_
    rw [show rd [((o.toNat : Nat) : Int)] 0 = ((o.toNat : Nat) : Int) from rfl, eo]
    by_cases hc : l = []
    · subst hc
      exact Mth.Evn.congr (fun k => if_pos (by rw [dtl]; rfl)) (isP_yes h)
    · refine Mth.Evn.congr (fun k => if_neg (by rw [dtl]; exact txt_ne hc)) ?_
      have hsp := split_eq (t := mkB (txt l)) (by rw [mkB_size]; omega) 44
      rw [mkB_list, txt_44 hc, mkB_map] at hsp
      refine pre hsp ?_
      have hlp := implLoop_yes h l.length 0 (by omega)
      rw [List.take_zero] at hlp
      rw [List.length_map]
      exact hlp
  unfold impl_ParsePuzzle.f
  refine pre hcut ?_
  refine hn.bind ?_
  exact Mth.Evn.congr (fun k => (if_pos rfl).trans (if_pos rfl)) hj
theorem pi_any {t : ByteArray} (hz : t.size ≤ 2000000) : ∃ r, Mth.Evn (fun k => impl_ParsePuzzle.f k t) r ∧ (r = (0, [], false) ∨ (goodP r.1 r.2.1 = true ∧ t.data.toList = P r.1 r.2.1)) := by
  have jt : ∀ t L, Mth.Evn (fun k => impl_ParsePuzzle.j0 k t L true) (0, [], false) := fun t L => (Mth.Evn.now _).step fun k => by simp only [impl_ParsePuzzle.j0]; rw [if_pos trivial]
  have hsz := size_list t
  rcases parts 58 t.data.toList with hp | ⟨x, y, hp, hx⟩
  · have hcut := cut_eq hz 58 (cut0 hp)
    obtain ⟨xs, b, hn, _⟩ := nums_back (t := mkB t.data.toList) (by rw [mkB_size]; omega) 44
    refine ⟨(0, [], false), ?_, .inl rfl⟩
    unfold impl_ParsePuzzle.f
    refine pre hcut ?_
    refine hn.bind ?_
    exact Mth.Evn.congr (fun k => if_neg (by simp)) (jt _ _)
  · have hcut := cut_eq hz 58 (x := x) (y := y) (f := true) (by rw [hp]; exact cut1 hx)
    have hlen : x.length ≤ 2000000 ∧ y.length + 1 ≤ 2000000 := by
      rw [hp] at hsz
      simp at hsz; omega
    obtain ⟨xs, b, hn, hb⟩ := nums_back (t := mkB x) (by rw [mkB_size]; omega) 44
    unfold impl_ParsePuzzle.f
    cases b with
    | false => exact ⟨_, pre hcut (hn.bind (Mth.Evn.congr (fun k => (if_pos rfl).trans (if_neg (by simp))) (jt _ _))), .inl rfl⟩
    | true =>
      obtain ⟨hx1, ns, e1, e2⟩ := hb rfl
      have h0 : ∀ r, Mth.Evn (fun k => impl_ParsePuzzle.j0 k (mkB y) xs ((xs.length : Int) != 1)) r → Mth.Evn (fun k => (strings_Cut.f t (⟨#[58]⟩ : ByteArray)).bind fun bt191 => ((impl_readNumbers.f k bt191.1 (⟨#[44]⟩ : ByteArray)).bind fun bt194 => (if bt191.2.2 = true then (if bt194.2 = true then (impl_ParsePuzzle.j0 k bt191.2.1 bt194.1 ((bt194.1.length : Int) != 1)) else (impl_ParsePuzzle.j0 k bt191.2.1 bt194.1 true)) else (impl_ParsePuzzle.j0 k bt191.2.1 bt194.1 true)))) r := fun r hr =>
        pre hcut (hn.bind (Mth.Evn.congr (fun k => (if_pos rfl).trans (if_pos rfl)) hr))
      by_cases hl : xs.length = 1
      · have hne : ((xs.length : Int) != 1) = false := by rw [hl]; rfl
        have hns : ns.length = 1 := by rw [e1, List.length_map] at hl; exact hl
        obtain ⟨o, rfl⟩ := List.length_eq_one_iff.1 hns
        have hxo := pieces_one e2
        rw [mkB_list] at hxo
        have ero : rd xs 0 = (o : Int) := by rw [e1]; rfl
        by_cases hy : y = []
        · obtain ⟨r, hr, hq⟩ := isP_any (o : Int) []
          refine ⟨r, h0 r ?_, ?_⟩
          · rw [hne]
            refine Mth.Evn.step (fun k => by simp only [impl_ParsePuzzle.j0, ero]; rw [if_neg (by simp), if_pos (by omega), if_pos (by rw [dtl]; exact hy)]) ?_
            exact hr
          · rcases hq with hq | ⟨q1, q2⟩
            · exact .inl hq
            · rw [q2]
              refine .inr ⟨q1, ?_⟩
              show t.data.toList = P (o : Int) []
              rw [hp, hxo, hy]
              unfold P
              rw [Int.toNat_natCast]; rfl
        · have hsp := split_eq (t := mkB y) (by rw [mkB_size]; omega) 44
          rw [mkB_list] at hsp
          have hw := pieces_len (c := 44) y []
          obtain ⟨r, hr, hq⟩ := implLoop_any ((pieces 44 [] y).map mkB) (by rw [List.length_map]; omega) (fun w hw => by
            obtain ⟨v, hv, rfl⟩ := List.mem_map.1 hw
            have := pieces_piece _ _ _ hv
            rw [mkB_size]
            simp at this; omega) ((pieces 44 [] y).map mkB).length 0 (o : Int) [] (by omega) rfl
          refine ⟨r, h0 r ?_, ?_⟩
          · rw [hne]
            refine Mth.Evn.step (fun k => by simp only [impl_ParsePuzzle.j0, ero]; rw [if_neg (by simp), if_pos (by omega), if_neg (by rw [dtl]; exact hy)]) ?_
            exact pre hsp hr
          · rcases hq with hq | ⟨l, q1, q2, q3⟩
            · exact .inl hq
            · rw [q2]
              refine .inr ⟨q1, ?_⟩
              show t.data.toList = P (o : Int) l
              have hj := join_pieces 44 y []
              rw [List.map_map, show ((fun b : ByteArray => b.data.toList) ∘ mkB) = id from rfl, List.map_id] at q3
              rw [← q3, ← txt_join, List.nil_append] at hj
              rw [hp, hxo, ← hj]
              unfold P
              rw [Int.toNat_natCast]
      · refine ⟨(0, [], false), h0 _ ?_, .inl rfl⟩
        rw [show ((xs.length : Int) != 1) = true from bne_iff_ne.2 (by omega)]
        exact jt _ _
theorem holds (a0 : ByteArray) (w0 : a0.size ≤ 140737488351232) : ∃ k, laws_FnExactParsePuzzle.f k a0 = some true := by
  have hE : Mth.Evn (fun k => laws_FnExactParsePuzzle.f k a0) true := by
    unfold laws_FnExactParsePuzzle.f
    by_cases hz : (a0.size : Int) > 1048576
    · exact Mth.Evn.congr (fun k => if_pos hz) (Mth.Evn.now _)
    · refine Mth.Evn.congr (fun k => if_neg hz) ?_
      have core : ∃ r : Int × List S38 × Bool, r.2.1.length ≤ 1000 ∧ Mth.Evn (fun k => spec_ParsePuzzle.f k a0) r ∧ Mth.Evn (fun k => impl_ParsePuzzle.f k a0) r := by
        by_cases hh : ∃ (o : Int) (l : List S38), goodP o l = true ∧ a0.data.toList = P o l
        · obtain ⟨o, l, h1, h2⟩ := hh
          exact ⟨_, by have := (good_of h1).2.1; show l.length ≤ 1000; omega, ps_yes h1 h2, pi_yes h1 h2⟩
        · obtain ⟨r1, e1, q1⟩ := ps_any (t := a0) (by omega)
          obtain ⟨r2, e2, q2⟩ := pi_any (t := a0) (by omega)
          obtain rfl := q1.resolve_right (fun q => hh ⟨_, _, q⟩)
          obtain rfl := q2.resolve_right (fun q => hh ⟨_, _, q⟩)
          exact ⟨_, Nat.zero_le _, e1, e2⟩
      obtain ⟨⟨p, L, b⟩, hL, hs, hi⟩ := core
      have hL' : L.length ≤ 1048576 := Nat.le_trans hL (by omega)
      have he := eqPuzzle_ev p L hL'
      obtain ⟨m, r, hm0, hm, hh⟩ := mark_held_puzzle p L hL'
      refine hs.bind (hi.bind (he.bind ?_))
      refine Mth.Evn.congr (fun k => if_pos rfl) ?_
      have e1 : (b != b) = false := by simp
      simp only [e1]
      refine Mth.Evn.step (fun k => by simp only [laws_FnExactParsePuzzle.j0]; rw [if_neg (by simp)]) ?_
      refine hm.bind (hh.bind ?_)
      refine Mth.Evn.congr (fun k => (if_neg (by omega)).trans (if_pos rfl)) ?_
      refine hi.bind (he.bind ?_)
      refine Mth.Evn.congr (fun k => if_pos rfl) ?_
      simp only [e1]
      refine Mth.Evn.step (fun k => by simp only [laws_FnExactParsePuzzle.j1]; rw [if_neg (by simp)]) ?_
      refine hh.bind ?_
      exact Mth.Evn.congr (fun k => (if_neg (by omega)).trans (if_pos rfl)) (Mth.Evn.now _)
  exact hE.get
end Go.Proofs.YtmkiponcommmmaaDoor.PureFnExactParsePuzzle
