/- The pure statement of FnExactParseStakes: both sides read just the texts of stakes. No condition. -/
import Derived.Test.YtfpbpiodoajpiaaDoorQFnExactParseStakesx3
import Derived.Test.YtfpbpiodoajpiaaDoorMath
import Derived.OpenShut
namespace Go.Proofs.YtfpbpiodoajpiaaDoor.PureFnExactParseStakes
open Go Go.RowKit Go.Proofs.YtfpbpiodoajpiaaDoor.QFnExactParseStakes Go.Proofs.YtfpbpiodoajpiaaDoorW.PrintWords Go.Proofs.YtfpbpiodoajpiaaDoorW.PrintLast Go.Proofs.YtfpbpiodoajpiaaDoorW.PrintMore
set_option linter.unusedVariables false
set_option linter.unusedSimpArgs false

theorem wrap_id {x : Int} (h : -9223372036854775808 ≤ x) (h' : x ≤ 9223372036854775807) : wrap64 x = x := by unfold wrap64; omega
theorem ite_dec (p q : Prop) [Decidable p] [Decidable q] : (if decide p = true then some (decide q) else some false) = some (decide (p ∧ q)) := by
  by_cases h : p <;> simp [h]
theorem some_dec {p q : Prop} [Decidable p] [Decidable q] (h : p ↔ q) : some (decide p) = some (decide q) := by rw [decide_eq_decide.2 h]
theorem div_in {x g : Int} {M : Int} (hM : M ≤ 9223372036854775807) (h : -M ≤ x) (h' : x ≤ M) (hd : g ∣ x) (h0 : g ≠ 0) : wrap64 (Int.tdiv x g) = x / g := by
  rw [Int.tdiv_eq_ediv_of_dvd hd]
  obtain ⟨c, rfl⟩ := hd
  rw [Int.mul_ediv_cancel_left _ h0]
  have : c.natAbs ≤ (g * c).natAbs := by rw [Int.natAbs_mul]; exact Nat.le_mul_of_pos_left _ (by omega)
  exact wrap_id (by omega) (by omega)
theorem l1In_eq (a b c : Int) : spec_l1In.f a b c = some (decide (b ≤ a ∧ a ≤ c)) := by
  unfold spec_l1In.f
  by_cases h : a ≥ b
  · rw [if_pos h]; simp [show b ≤ a from h]
  · rw [if_neg h]; simp; omega
theorem within_eq (a b c : Int) : impl_within.f a b c = some (decide (b ≤ a ∧ a ≤ c)) := by
  unfold impl_within.f
  by_cases h : a ≥ b
  · rw [if_pos h]; simp [show b ≤ a from h]
  · rw [if_neg h]; simp; omega
theorem skGood_eq (p g : Int) : spec_skGood.f p g = some (decide ((1 ≤ g ∧ g ≤ 16) ∧ (0 ≤ p ∧ p ≤ g))) := by
  unfold spec_skGood.f; simp only [l1In_eq, Option.bind_some]
  by_cases h1 : 1 ≤ g ∧ g ≤ 16 <;> simp [h1]
theorem AreStakes_eq (p g : Int) : impl_AreStakes.f p g = some (decide ((1 ≤ g ∧ g ≤ 16) ∧ (0 ≤ p ∧ p ≤ g))) := by
  unfold impl_AreStakes.f; simp only [within_eq, Option.bind_some]
  by_cases h1 : 1 ≤ g ∧ g ≤ 16 <;> simp [h1]

def dd (n : Nat) : List UInt8 := if n < 10 then [UInt8.ofNat (48 + n)] else [UInt8.ofNat (48 + n / 10), UInt8.ofNat (48 + n % 10)]
theorem dec_dd (n : Nat) (h : n < 100) : Lib.decDigits n = dd n := by
  unfold dd
  by_cases c : n < 10
  · rw [if_pos c, Lib.decDigits, dif_pos c]
  · rw [if_neg c, Lib.decDigits, dif_neg c, Lib.decDigits, dif_pos (by omega)]; rfl
def ofB : ByteArray := ⟨#[111, 102]⟩
def TT (p g : Nat) : ByteArray := ⟨(dd p ++ [111, 102] ++ dd g).toArray⟩
theorem pos_impl : ∀ p g : Fin 17, Lib.countB (TT p g) ofB = 1 ∧ (Lib.splitB ofB 0 1 (TT p g)).map (fun b => b.data.toList) = [dd p, dd g] := by decide +kernel
theorem pos_atoi : ∀ p : Fin 17, Lib.atoiAll (dd p) = .ok ((p.val : Nat) : Int) := by decide +kernel
theorem bytes_eq {a b : ByteArray} (h : a.data.toList = b.data.toList) : a = b := by
  apply ByteArray.ext
  exact Array.toList_inj.1 h
theorem app_list (a b : ByteArray) : (a ++ b).data.toList = a.data.toList ++ b.data.toList := by simp
theorem ext_list (w : ByteArray) (i j : Nat) : (w.extract i j).data.toList = (w.data.toList.take j).drop i := by
  rw [ByteArray.data_extract]
  simp [Array.toList_extract, List.extract_eq_take_drop, List.drop_take]
theorem split_two {t a b : ByteArray} (h : Lib.splitB ofB 0 (Lib.countB t ofB) t = [a, b]) (hc : Lib.countB t ofB = 1) : t.data.toList = a.data.toList ++ [111, 102] ++ b.data.toList := by
  rw [hc] at h
  rcases Lib.index_spec t.data.toList ofB.data.toList with ⟨h1, _⟩ | ⟨i, h1, h2, h3, _⟩
  · rw [Lib.splitB_miss _ _ _ _ h1] at h; cases h
  · rw [Lib.splitB_hit _ _ _ _ i h1, Lib.splitB_zero] at h
    have e1 : t.extract 0 (i + 0) = a := (List.cons.inj h).1
    have e2 : t.extract (i + ofB.size) t.size = b := (List.cons.inj (List.cons.inj h).2).1
    have z : ofB.size = 2 := rfl
    rw [z] at e2
    have l1 : a.data.toList = t.data.toList.take i := by rw [← e1, ext_list]; simp
    have l2 : b.data.toList = t.data.toList.drop (i + 2) := by
      rw [← e2, ext_list, List.take_of_length_le (by rw [Array.length_toList]; exact Nat.le_refl _)]
    have l3 : (t.data.toList.drop i).take 2 = [111, 102] := by
      obtain ⟨r, hr⟩ := List.isPrefixOf_iff_prefix.1 h3
      rw [← hr]; rfl
    rw [l1, l2, ← l3, List.append_assoc, ← List.drop_drop, List.take_append_drop, List.take_append_drop]
/-- A text that is a number from 0 on, as it is written. -/
def okNum (w : ByteArray) : Option Int := match Lib.atoiAll w.data.toList with
  | .ok v => if v < 0 then none else if Lib.itoa v = w.data.toList then some v else none
  | _ => none
def rn : List ByteArray → List Int → List Int × Bool
  | [], acc => (acc, true)
  | w :: ws, acc => match okNum w with
    | some v => rn ws (acc ++ [v])
    | none => ([], false)
theorem dtl (b : ByteArray) : b.toList = b.data.toList := Go.ByteArray.toList_eq b
theorem body (w : ByteArray) (hw : w.size ≤ 4000000000) (F : Int → Option (List Int × Bool)) : ((strconv_Atoi.f w).bind fun bt => (if bt.2.isNone = true then (if bt.1 < 0 then (some (([] : List Int), false)) else ((strconv_Itoa.f bt.1).bind fun t => (if t.toList = w.toList then F bt.1 else (some (([] : List Int), false))))) else (some (([] : List Int), false)))) = match okNum w with
    | some v => F v
    | none => some ([], false) := by
  unfold strconv_Atoi.f
  rw [if_pos hw]
  unfold atoiP okNum
  cases ha : Lib.atoiAll w.data.toList with
  | ok v =>
    have hb := Lib.atoiAll_bounds ha
    simp only [Option.bind_some, Option.isNone_none, if_true]
    by_cases h0 : v < 0
    · simp only [if_pos h0]
    · simp only [if_neg h0]
      unfold strconv_Itoa.f
      rw [if_pos (by omega)]
      simp only [Option.bind_some, dtl]
      by_cases h1 : Lib.itoa v = w.data.toList
      · rw [if_pos h1]
        simp only [if_pos h1]
      · rw [if_neg h1]
        simp only [if_neg h1]
  | _ => rfl
theorem split_sizes (sep : ByteArray) : ∀ (k : Nat) (s w : ByteArray), w ∈ Lib.splitB sep 0 k s → w.size ≤ s.size
  | 0, s, w, h => by
    rw [Lib.splitB_zero] at h
    simp only [List.mem_cons, List.not_mem_nil, or_false] at h
    subst h; exact Nat.le_refl _
  | k + 1, s, w, h => by
    unfold Lib.splitB at h
    split at h
    · simp only [List.mem_cons, List.not_mem_nil, or_false] at h
      subst h; exact Nat.le_refl _
    · rcases List.mem_cons.1 h with rfl | h
      · rw [ByteArray.size_extract]; omega
      · have := split_sizes sep k _ w h
        rw [ByteArray.size_extract] at this; omega
theorem rn_ev (L : List ByteArray) (hl : L.length ≤ 4000000) (hs : ∀ w, w ∈ L → w.size ≤ 4000000000) : ∀ (d i : Nat) (acc : List Int), i + d = L.length → acc.length = i →
    Mth.Evn (fun k => impl_readNumbers.l0 k acc L (L.length : Int) i) (rn (L.drop i) acc)
  | 0, i, acc, hi, ha => by
    refine (Mth.Evn.now _).step fun k => ?_
    simp only [impl_readNumbers.l0]
    rw [if_neg (by omega), List.drop_of_length_le (by omega)]; rfl
  | d + 1, i, acc, hi, ha => by
    have hlt : i < L.length := by omega
    have er : rdOf ByteArray.empty L (i : Int) = L[i] := by unfold rdOf; rw [List.getD_eq_getElem?_getD, Int.toNat_natCast, List.getElem?_eq_getElem hlt]; rfl
    have hw := hs _ (List.getElem_mem hlt)
    have ew : wrap64 ((i : Int) + 1) = ((i + 1 : Nat) : Int) := by rw [wrap_id (by omega) (by omega)]; omega
    rw [List.drop_eq_getElem_cons hlt]
    cases hk : okNum L[i] with
    | none =>
      have e : rn (L[i] :: L.drop (i + 1)) acc = ([], false) := by rw [rn, hk]
      rw [e]
      refine (Mth.Evn.now _).step fun k => ?_
      simp only [impl_readNumbers.l0, er]
      rw [if_pos (by omega), if_pos (by omega), if_pos (by omega)]
      refine (body L[i] hw (fun v => if acc.length < 17592186044416 then impl_readNumbers.l0 k (acc ++ [v]) L (L.length : Int) (wrap64 ((i : Int) + 1)) else none)).trans ?_
      rw [hk]
    | some v =>
      have e : rn (L[i] :: L.drop (i + 1)) acc = rn (L.drop (i + 1)) (acc ++ [v]) := by rw [rn, hk]
      rw [e]
      have ih := rn_ev L hl hs d (i + 1) (acc ++ [v]) (by omega) (by simp; omega)
      refine ih.step fun k => ?_
      simp only [impl_readNumbers.l0, er]
      rw [if_pos (by omega), if_pos (by omega), if_pos (by omega)]
      refine (body L[i] hw (fun v => if acc.length < 17592186044416 then impl_readNumbers.l0 k (acc ++ [v]) L (L.length : Int) (wrap64 ((i : Int) + 1)) else none)).trans ?_
      rw [hk]
      show (if acc.length < 17592186044416 then _ else _) = _
      rw [if_pos (by omega), ew]
theorem readNumbers_ev {t sep : ByteArray} (ht : t.size ≤ 2000000) (h1 : 1 ≤ sep.size) : Mth.Evn (fun k => impl_readNumbers.f k t sep) (rn (Lib.splitB sep 0 (Lib.countB t sep) t) []) := by
  have hb := Lib.countB_mul_le sep h1 t.size t (Nat.le_refl _)
  have hb2 : Lib.countB t sep * 1 ≤ Lib.countB t sep * sep.size := Nat.mul_le_mul_left _ h1
  have hl := Lib.splitB_all sep h1 0 (Lib.countB t sep) t rfl
  have es : strings_Split.f t sep = some (Lib.splitB sep 0 (Lib.countB t sep) t) := by unfold strings_Split.f; exact if_pos ⟨by omega, h1⟩
  have := rn_ev (Lib.splitB sep 0 (Lib.countB t sep) t) (by omega) (fun w hw => by have := split_sizes sep _ t w hw; omega) (Lib.splitB sep 0 (Lib.countB t sep) t).length 0 [] (by omega) rfl
  rw [List.drop_zero] at this
  unfold impl_readNumbers.f
  rw [es]
  exact this
theorem rn_len : ∀ (L : List ByteArray) (acc xs : List Int), rn L acc = (xs, true) → xs.length = acc.length + L.length
  | [], acc, xs, h => by
    obtain ⟨rfl, _⟩ := Prod.mk.inj h; simp
  | w :: ws, acc, xs, h => by
    rw [rn] at h
    cases hk : okNum w with
    | none => rw [hk] at h; cases h
    | some v =>
      rw [hk] at h
      have := rn_len ws (acc ++ [v]) xs h
      simp at this ⊢; omega
theorem okNum_some {w : ByteArray} {v : Int} (h : okNum w = some v) : 0 ≤ v ∧ Lib.decDigits v.toNat = w.data.toList := by
  unfold okNum at h
  split at h
  · rename_i u hu
    split at h
    · cases h
    · split at h
      · rename_i h0 h1
        obtain rfl := Option.some.inj h
        refine ⟨by omega, ?_⟩
        rw [← h1, Lib.itoa, if_neg h0]
      · cases h
  · cases h
theorem okNum_dd (p : Nat) (h : p ≤ 16) : okNum ⟨(dd p).toArray⟩ = some (p : Int) := by
  have ha := pos_atoi ⟨p, by omega⟩
  dsimp only at ha
  unfold okNum
  show (match Lib.atoiAll (dd p) with | .ok v => if v < 0 then none else if Lib.itoa v = dd p then some v else none | _ => none) = _
  rw [ha]
  show (if (p : Int) < 0 then none else if Lib.itoa (p : Int) = dd p then some (p : Int) else none) = _
  have h0 : ¬ (p : Int) < 0 := by omega
  have hi : Lib.itoa (p : Int) = dd p := by unfold Lib.itoa; rw [if_neg h0, Int.toNat_natCast, dec_dd p (by omega)]
  rw [if_neg h0, if_pos hi]
theorem readPair_ev {t : ByteArray} (ht : t.size ≤ 2000000) : Mth.Evn (fun k => impl_readPair.f k t (⟨#[111, 102]⟩ : ByteArray))
    (if (rn (Lib.splitB ofB 0 (Lib.countB t ofB) t) []).2 = true ∧ (rn (Lib.splitB ofB 0 (Lib.countB t ofB) t) []).1.length = 2 then (rd (rn (Lib.splitB ofB 0 (Lib.countB t ofB) t) []).1 0, rd (rn (Lib.splitB ofB 0 (Lib.countB t ofB) t) []).1 1, true) else (0, 0, false)) := by
  have h := readNumbers_ev (t := t) (sep := ofB) ht (by decide)
  unfold impl_readPair.f
  refine h.bind ?_
  generalize rn (Lib.splitB ofB 0 (Lib.countB t ofB) t) [] = x
  obtain ⟨xs, b⟩ := x
  dsimp only
  cases b with
  | false =>
    refine Mth.Evn.congr (fun k => if_neg (by simp)) ?_
    rw [if_neg (by simp)]
    exact Mth.Evn.now _
  | true =>
    refine Mth.Evn.congr (fun k => if_pos rfl) ?_
    by_cases hl : xs.length = 2
    · refine Mth.Evn.congr (fun k => (if_pos (by omega)).trans ((if_pos (by omega)).trans (if_pos (by omega)))) ?_
      rw [if_pos ⟨rfl, hl⟩]
      exact Mth.Evn.now _
    · refine Mth.Evn.congr (fun k => if_neg (by omega)) ?_
      rw [if_neg (fun h => hl h.2)]
      exact Mth.Evn.now _
theorem count_eq {t : ByteArray} (ht : t.size ≤ 2000000) : strings_Count.f t (⟨#[111, 102]⟩ : ByteArray) = some (Lib.countB t ofB : Int) := by
  unfold strings_Count.f
  exact if_pos ⟨by omega, by decide⟩
theorem are_eq (p g : Int) : impl_AreStakes.f p g = some (decide ((1 ≤ g ∧ g ≤ 16) ∧ 0 ≤ p ∧ p ≤ g)) := by
  simp only [impl_AreStakes.f, within_eq, Option.bind_some, ite_dec]
theorem good_eq (p g : Int) : spec_skGood.f p g = some (decide ((1 ≤ g ∧ g ≤ 16) ∧ 0 ≤ p ∧ p ≤ g)) := by
  simp only [spec_skGood.f, l1In_eq, Option.bind_some, ite_dec]
theorem impl_yes (p g : Nat) (hp : p ≤ g) (h1 : 1 ≤ g) (hg : g ≤ 16) : Mth.Evn (fun k => impl_ParseStakes.f k (TT p g)) ((p : Int), (g : Int), true) := by
  have hz : (TT p g).size ≤ 2000000 := by
    have e : (TT p g).size = (dd p).length + 2 + (dd g).length := by
      show (dd p ++ [111, 102] ++ dd g).length = _
      simp; omega
    have d1 : ∀ n : Nat, (dd n).length ≤ 2 := fun n => by unfold dd; split <;> simp
    have := d1 p; have := d1 g; omega
  have hi := pos_impl ⟨p, by omega⟩ ⟨g, by omega⟩
  dsimp only at hi
  obtain ⟨hc, hs⟩ := hi
  have hL : Lib.splitB ofB 0 (Lib.countB (TT p g) ofB) (TT p g) = [⟨(dd p).toArray⟩, ⟨(dd g).toArray⟩] := by
    rw [hc]
    generalize Lib.splitB ofB 0 1 (TT p g) = L at hs
    rcases L with _ | ⟨a, _ | ⟨b, _ | ⟨c, l⟩⟩⟩
    · cases hs
    · cases (List.cons.inj hs).2
    · have h1 := (List.cons.inj hs).1
      have h2 := (List.cons.inj (List.cons.inj hs).2).1
      rw [bytes_eq (a := a) (b := ⟨(dd p).toArray⟩) h1, bytes_eq (a := b) (b := ⟨(dd g).toArray⟩) h2]
    · cases (List.cons.inj (List.cons.inj hs).2).2
  have hr : rn (Lib.splitB ofB 0 (Lib.countB (TT p g) ofB) (TT p g)) [] = ([(p : Int), (g : Int)], true) := by
    rw [hL, rn, okNum_dd p (by omega)]
    show rn [⟨(dd g).toArray⟩] [(p : Int)] = _
    rw [rn, okNum_dd g hg]; rfl
  have h := readPair_ev (t := TT p g) hz
  rw [hr, if_pos ⟨rfl, rfl⟩] at h
  unfold impl_ParseStakes.f
  refine h.bind ?_
  refine Mth.Evn.congr (fun k => if_pos rfl) ?_
  rw [count_eq hz, hc]
  simp only [Option.bind_some]
  refine Mth.Evn.congr (fun k => if_pos rfl) ?_
  have ha : impl_AreStakes.f (rd [(p : Int), (g : Int)] 0) (rd [(p : Int), (g : Int)] 1) = some true := by
    rw [are_eq]
    show some (decide ((1 ≤ (g : Int) ∧ (g : Int) ≤ 16) ∧ 0 ≤ (p : Int) ∧ (p : Int) ≤ (g : Int))) = _
    rw [decide_eq_true (by omega)]
  rw [ha]
  simp only [Option.bind_some]
  exact Mth.Evn.congr (fun k => if_pos trivial) (Mth.Evn.now _)
theorem impl_no {t : ByteArray} (ht : t.size ≤ 2000000) (hn : ∀ p g : Nat, p ≤ g → 1 ≤ g → g ≤ 16 → t ≠ TT p g) : Mth.Evn (fun k => impl_ParseStakes.f k t) (0, 0, false) := by
  have h := readPair_ev (t := t) ht
  unfold impl_ParseStakes.f
  refine h.bind ?_
  by_cases c : (rn (Lib.splitB ofB 0 (Lib.countB t ofB) t) []).2 = true ∧ (rn (Lib.splitB ofB 0 (Lib.countB t ofB) t) []).1.length = 2
  · rw [if_pos c]
    refine Mth.Evn.congr (fun k => if_pos rfl) ?_
    rw [count_eq ht]
    simp only [Option.bind_some]
    by_cases c1 : Lib.countB t ofB = 1
    · refine Mth.Evn.congr (fun k => if_pos (by omega)) ?_
      rw [are_eq]
      simp only [Option.bind_some]
      refine Mth.Evn.congr (fun k => if_neg ?_) (Mth.Evn.now _)
      intro hd
      have hd2 := of_decide_eq_true hd
      generalize hL : Lib.splitB ofB 0 (Lib.countB t ofB) t = L at c hd2
      obtain ⟨c2, c3⟩ := c
      have hlen := rn_len L [] (rn L []).1 (by rw [← c2])
      rw [c3] at hlen
      match L, hlen with
      | [a, b], _ =>
        have hsp := split_two hL c1
        rw [rn] at c2 hd2
        cases ha : okNum a with
        | none => rw [ha] at c2; cases c2
        | some p =>
          rw [ha] at c2 hd2
          dsimp only at c2 hd2
          rw [rn] at c2 hd2
          cases hb : okNum b with
          | none => rw [hb] at c2; cases c2
          | some g =>
            rw [hb] at hd2
            have hd3 : (1 ≤ g ∧ g ≤ 16) ∧ 0 ≤ p ∧ p ≤ g := hd2
            obtain ⟨_, wa⟩ := okNum_some ha
            obtain ⟨_, wb⟩ := okNum_some hb
            rw [dec_dd _ (by omega)] at wa wb
            refine hn p.toNat g.toNat (by omega) (by omega) (by omega) (bytes_eq ?_)
            rw [hsp, ← wa, ← wb]; rfl
    · exact Mth.Evn.congr (fun k => if_neg (by omega)) (Mth.Evn.now _)
  · rw [if_neg c]
    exact Mth.Evn.congr (fun k => if_neg (by simp)) (Mth.Evn.now _)
theorem evn_of_mono {α : Type} {f : Nat → Option α} (hm : ∀ k, LeO (f k) (f (k + 1))) {N : Nat} {r : α} (h : f N = some r) : Mth.Evn f r := by
  refine ⟨N, fun k hk => ?_⟩
  obtain ⟨d, rfl⟩ : ∃ d, k = N + d := ⟨k - N, by omega⟩
  clear hk
  induction d with
  | zero => exact h
  | succ d ih => exact hm (N + d) r ih
theorem read_dd : ∀ p : Fin 17, spec_l1Read.f 10 ⟨(dd p).toArray⟩ = some ((p.val : Nat) : Int) := by decide +kernel
theorem text_dd : ∀ p g : Fin 17, (spec_skText.f 10 ((p.val : Nat) : Int) ((g.val : Nat) : Int)).map (fun b => b.data.toList) = some (dd p ++ [111, 102] ++ dd g) := by decide +kernel
theorem cut_dd : ∀ p g : Fin 17, ((TT p g).extract 0 (dd p).length).data.toList = dd p ∧ ((TT p g).extract ((dd p).length + 2) (TT p g).size).data.toList = dd g ∧ ((TT p g).extract (dd p).length ((dd p).length + 2)).data.toList = [111, 102] ∧ ((TT p g).extract 0 2).data.toList ≠ [111, 102] ∧ ((dd p).length = 2 → ((TT p g).extract 1 3).data.toList ≠ [111, 102]) ∧ (TT p g).size = (dd p).length + 2 + (dd g).length ∧ 1 ≤ (dd g).length ∧ ((dd p).length = 1 ∨ (dd p).length = 2) := by decide +kernel
theorem read_ev (p : Nat) (h : p ≤ 16) : Mth.Evn (fun k => spec_l1Read.f k ⟨(dd p).toArray⟩) (p : Int) := evn_of_mono (fun k => spec_l1Read.mono _ k) (read_dd ⟨p, by omega⟩)
theorem text_ev (p g : Nat) (h : p ≤ 16) (h' : g ≤ 16) : Mth.Evn (fun k => spec_skText.f k p g) (TT p g) := by
  have ht := text_dd ⟨p, by omega⟩ ⟨g, by omega⟩
  dsimp only at ht
  cases hs : spec_skText.f 10 (p : Int) (g : Int) with
  | none => rw [hs] at ht; cases ht
  | some b =>
    rw [hs] at ht
    have hb : b = TT p g := bytes_eq (Option.some.inj ht)
    rw [hb] at hs
    exact evn_of_mono (f := fun k => spec_skText.f k (p : Int) (g : Int)) (fun k => spec_skText.mono _ _ k) hs
theorem l1Read_l0 (s : ByteArray) (hs : s.size ≤ 6) : ∀ (d i : Nat) (x : Int), i + d = s.size → ∃ r, Mth.Evn (fun k => spec_l1Read.l0 k s x i) r
  | 0, i, x, hi => ⟨x, (Mth.Evn.now _).step fun k => by simp only [spec_l1Read.l0]; rw [if_neg (by omega)]⟩
  | d + 1, i, x, hi => by
    have ew : wrap64 ((i : Int) + 1) = ((i + 1 : Nat) : Int) := by rw [wrap_id (by omega) (by omega)]; omega
    obtain ⟨r, hr⟩ := l1Read_l0 s hs d (i + 1) (wrap64 ((wrap64 (10 * x)) + (((bt s i) - 48) % 256))) (by omega)
    by_cases c1 : bt s i < 48
    · exact ⟨-1, (Mth.Evn.now _).step fun k => by simp only [spec_l1Read.l0]; rw [if_pos (by omega), if_pos (by omega), if_pos c1]⟩
    · by_cases c2 : bt s i > 57
      · exact ⟨-1, (Mth.Evn.now _).step fun k => by simp only [spec_l1Read.l0]; rw [if_pos (by omega), if_pos (by omega), if_neg c1, if_pos c2]⟩
      · exact ⟨r, hr.step fun k => by simp only [spec_l1Read.l0]; rw [if_pos (by omega), if_pos (by omega), if_neg c1, if_neg c2, ew]⟩
theorem l1Read_some (s : ByteArray) : ∃ r, Mth.Evn (fun k => spec_l1Read.f k s) r := by
  have yes : Mth.Evn (fun k => spec_l1Read.j0 k s true) (-1) := (Mth.Evn.now _).step fun k => by simp only [spec_l1Read.j0]; rw [if_pos trivial]
  unfold spec_l1Read.f
  rw [l1In_eq]
  simp only [Option.bind_some]
  by_cases c : 1 ≤ (s.size : Int) ∧ (s.size : Int) ≤ 6
  · obtain ⟨r, hr⟩ := l1Read_l0 s (by omega) s.size 0 0 (by omega)
    have no : Mth.Evn (fun k => spec_l1Read.j0 k s false) r := hr.step fun k => by simp only [spec_l1Read.j0]; rw [if_neg (by simp)]; rfl
    have two : ∀ b : Bool, ∃ r, Mth.Evn (fun k => spec_l1Read.j0 k s b) r := fun b => by
      cases b with
      | true => exact ⟨_, yes⟩
      | false => exact ⟨_, no⟩
    by_cases c0 : bt s 0 = 48
    · obtain ⟨q, hq⟩ := two (decide ((s.size : Int) > 1))
      exact ⟨q, Mth.Evn.congr (fun k => (if_pos (decide_eq_true c)).trans ((if_pos (by omega)).trans (if_pos c0))) hq⟩
    · exact ⟨r, Mth.Evn.congr (fun k => (if_pos (decide_eq_true c)).trans ((if_pos (by omega)).trans (if_neg c0))) no⟩
  · exact ⟨-1, Mth.Evn.congr (fun k => if_neg (by simpa using c)) yes⟩
section
variable {t : ByteArray} {i : Nat}
theorem sp_step (ht : t.size ≤ 2000000) (hi : i + 1 < t.size) (h3 : i < 3) (hne : (t.extract i (i + 2)).data.toList ≠ [111, 102]) {r : Int × Int × Bool} (h : Mth.Evn (fun k => spec_ParseStakes.l0 k t ((i + 1 : Nat) : Int)) r) : Mth.Evn (fun k => spec_ParseStakes.l0 k t i) r := by
  have e1 : wrap64 ((i : Int) + 1) = ((i + 1 : Nat) : Int) := by rw [wrap_id (by omega) (by omega)]; omega
  have e2 : wrap64 ((i : Int) + 2) = ((i + 2 : Nat) : Int) := by rw [wrap_id (by omega) (by omega)]; omega
  refine Mth.Evn.step (g := fun k => spec_ParseStakes.j1 k t i true) (fun k => ?_) (h.step fun k => ?_)
  · simp only [spec_ParseStakes.l0, e1]; rw [if_pos (by omega), decide_eq_true (by omega)]
  · simp only [spec_ParseStakes.j1, e1, e2]
    rw [if_pos trivial, if_pos (by omega), if_pos (by omega), if_pos (by omega), if_neg (by rw [dtl]; exact hne)]
theorem sp_at (ht : t.size ≤ 2000000) (hi : i + 1 < t.size) (h3 : i < 3) (heq : (t.extract i (i + 2)).data.toList = [111, 102]) {p g : Int} (hp : Mth.Evn (fun k => spec_l1Read.f k (t.extract 0 i)) p) (hg : Mth.Evn (fun k => spec_l1Read.f k (t.extract (i + 2) t.size)) g) {r : Int × Int × Bool}
    (h : Mth.Evn (fun k => if decide ((1 ≤ g ∧ g ≤ 16) ∧ 0 ≤ p ∧ p ≤ g) = true then ((spec_skText.f k p g).bind fun t120 => (if t120.toList = t.toList then (some (p, g, true)) else (spec_ParseStakes.l0 k t ((i + 1 : Nat) : Int)))) else (spec_ParseStakes.l0 k t ((i + 1 : Nat) : Int))) r) : Mth.Evn (fun k => spec_ParseStakes.l0 k t i) r := by
  have e1 : wrap64 ((i : Int) + 1) = ((i + 1 : Nat) : Int) := by rw [wrap_id (by omega) (by omega)]; omega
  have e2 : wrap64 ((i : Int) + 2) = ((i + 2 : Nat) : Int) := by rw [wrap_id (by omega) (by omega)]; omega
  refine Mth.Evn.step (g := fun k => spec_ParseStakes.j1 k t i true) (fun k => ?_) ?_
  · simp only [spec_ParseStakes.l0, e1]; rw [if_pos (by omega), decide_eq_true (by omega)]
  refine Mth.Evn.step (fun k => by
    simp only [spec_ParseStakes.j1, e1, e2]
    rw [if_pos trivial, if_pos (by omega), if_pos (by omega), if_pos (by omega), if_pos (by rw [dtl]; exact heq), if_pos (by omega)]) ?_
  refine hp.bind ?_
  refine Mth.Evn.congr (fun k => if_pos (by omega)) ?_
  refine hg.bind ?_
  rw [good_eq]
  exact h
end
theorem sp_end {t : ByteArray} {i : Nat} (ht : t.size ≤ 2000000) (h : i + 1 ≥ t.size ∨ 3 ≤ i) (hi : i ≤ 3) : Mth.Evn (fun k => spec_ParseStakes.l0 k t i) (0, 0, false) := by
  have e1 : wrap64 ((i : Int) + 1) = ((i + 1 : Nat) : Int) := by rw [wrap_id (by omega) (by omega)]; omega
  have hj : Mth.Evn (fun k => spec_ParseStakes.j1 k t i false) (0, 0, false) := (Mth.Evn.now _).step fun k => by simp only [spec_ParseStakes.j1]; rw [if_neg (by simp)]
  refine hj.step fun k => ?_
  simp only [spec_ParseStakes.l0, e1]
  by_cases c : i + 1 < t.size
  · rw [if_pos (by omega), decide_eq_false (by omega)]
  · rw [if_neg (by omega)]
theorem spec_no {t : ByteArray} (ht : t.size ≤ 2000000) (hn : ∀ p g : Nat, p ≤ g → 1 ≤ g → g ≤ 16 → t ≠ TT p g) : ∀ (d i : Nat), i + d = 3 → Mth.Evn (fun k => spec_ParseStakes.l0 k t i) (0, 0, false)
  | 0, i, hd => sp_end ht (.inr (by omega)) (by omega)
  | d + 1, i, hd => by
    have ih := spec_no ht hn d (i + 1) (by omega)
    by_cases c : i + 1 < t.size
    · by_cases c2 : (t.extract i (i + 2)).data.toList = [111, 102]
      · obtain ⟨p, hp⟩ := l1Read_some (t.extract 0 i)
        obtain ⟨g, hg⟩ := l1Read_some (t.extract (i + 2) t.size)
        refine sp_at ht c (by omega) c2 hp hg ?_
        by_cases c3 : (1 ≤ g ∧ g ≤ 16) ∧ 0 ≤ p ∧ p ≤ g
        · obtain ⟨p', rfl⟩ : ∃ m : Nat, p = (m : Int) := ⟨p.toNat, by omega⟩
          obtain ⟨g', rfl⟩ : ∃ m : Nat, g = (m : Int) := ⟨g.toNat, by omega⟩
          refine Mth.Evn.congr (fun k => if_pos (decide_eq_true c3)) ?_
          refine (text_ev p' g' (by omega) (by omega)).bind ?_
          refine Mth.Evn.congr (fun k => if_neg ?_) ih
          rw [dtl, dtl]
          intro e
          exact hn p' g' (by omega) (by omega) (by omega) (bytes_eq e).symm
        · exact Mth.Evn.congr (fun k => if_neg (by rw [decide_eq_false c3]; simp)) ih
      · exact sp_step ht c (by omega) c2 ih
    · exact sp_end ht (.inl (by omega)) (by omega)
theorem spec_yes (p g : Nat) (hp : p ≤ g) (h1 : 1 ≤ g) (hg : g ≤ 16) : Mth.Evn (fun k => spec_ParseStakes.f k (TT p g)) ((p : Int), (g : Int), true) := by
  obtain ⟨q1, q2, q3, q4, q5, q6, q7, q8⟩ := cut_dd ⟨p, by omega⟩ ⟨g, by omega⟩
  dsimp only at q1 q2 q3 q4 q5 q6 q7 q8
  have hz : (TT p g).size ≤ 2000000 := by
    have d1 : (dd g).length ≤ 2 := by unfold dd; split <;> simp
    omega
  have x1 : (TT p g).extract 0 (dd p).length = ⟨(dd p).toArray⟩ := bytes_eq q1
  have x2 : (TT p g).extract ((dd p).length + 2) (TT p g).size = ⟨(dd g).toArray⟩ := bytes_eq q2
  have main : Mth.Evn (fun k => spec_ParseStakes.l0 k (TT p g) (((dd p).length : Nat) : Int)) ((p : Int), (g : Int), true) := by
    refine sp_at hz (by omega) (by omega) q3 (by rw [x1]; exact read_ev p (by omega)) (by rw [x2]; exact read_ev g hg) ?_
    refine Mth.Evn.congr (fun k => if_pos (decide_eq_true (by omega))) ?_
    refine (text_ev p g (by omega) hg).bind ?_
    exact Mth.Evn.congr (fun k => if_pos rfl) (Mth.Evn.now _)
  show Mth.Evn (fun k => spec_ParseStakes.l0 k (TT p g) ((0 : Nat) : Int)) _
  rcases q8 with q8 | q8
  · rw [q8] at main
    exact sp_step hz (by omega) (by omega) q4 main
  · rw [q8] at main
    exact sp_step hz (by omega) (by omega) q4 (sp_step hz (by omega) (by omega) (q5 q8) main)
theorem holds (a0 : ByteArray) (w0 : a0.size ≤ 140737488351232) : ∃ k, laws_FnExactParseStakes.f k a0 = some true := by
  have hE : Mth.Evn (fun k => laws_FnExactParseStakes.f k a0) true := by
    unfold laws_FnExactParseStakes.f
    by_cases hz : (a0.size : Int) > 1048576
    · exact Mth.Evn.congr (fun k => if_pos hz) (Mth.Evn.now _)
    · refine Mth.Evn.congr (fun k => if_neg hz) ?_
      have core : ∃ r : Int × Int × Bool, Mth.Evn (fun k => spec_ParseStakes.f k a0) r ∧ Mth.Evn (fun k => impl_ParseStakes.f k a0) r := by
        by_cases H : ∃ p g : Nat, (p ≤ g ∧ 1 ≤ g ∧ g ≤ 16) ∧ a0 = TT p g
        · obtain ⟨p, g, ⟨h1, h2, h3⟩, rfl⟩ := H
          exact ⟨_, spec_yes p g h1 h2 h3, impl_yes p g h1 h2 h3⟩
        · have hn : ∀ p g : Nat, p ≤ g → 1 ≤ g → g ≤ 16 → a0 ≠ TT p g := fun p g h1 h2 h3 e => H ⟨p, g, ⟨h1, h2, h3⟩, e⟩
          exact ⟨_, spec_no (by omega) hn 3 0 rfl, impl_no (by omega) hn⟩
      obtain ⟨⟨p, g, b⟩, hs, hi⟩ := core
      refine hs.bind ?_
      refine hi.bind ?_
      have he : laws_eqStakes.f p g p g = some true := by unfold laws_eqStakes.f; rw [if_pos rfl, if_pos rfl]
      dsimp only
      rw [he]
      simp only [Option.bind_some]
      exact Mth.Evn.congr (fun k => (if_pos trivial).trans (if_neg (by simp))) (Mth.Evn.now _)
  exact hE.get
end Go.Proofs.YtfpbpiodoajpiaaDoor.PureFnExactParseStakes
