/- The pure statement of FnExactPuzzleText: both sides write the same numbers with the same signs between. No condition. -/
import Derived.Test.YtdmgmoedpgbnkaaDoorQFnExactPuzzleTextx6
import Derived.Test.YtdmgmoedpgbnkaaDoorMath
import Derived.OpenShut
namespace Go.Proofs.YtdmgmoedpgbnkaaDoor.PureFnExactPuzzleText
open Go Go.RowKit Go.Proofs.YtdmgmoedpgbnkaaDoor.QFnExactPuzzleText Go.Proofs.YtdmgmoedpgbnkaaDoorW.PrintWords Go.Proofs.YtdmgmoedpgbnkaaDoorW.PrintLast Go.Proofs.YtdmgmoedpgbnkaaDoorW.PrintMore
set_option linter.unusedVariables false
set_option linter.unusedSimpArgs false

theorem wrap_id {x : Int} (h : -9223372036854775808 ≤ x) (h' : x ≤ 9223372036854775807) : wrap64 x = x := by unfold wrap64; omega
theorem ite_dec (p q : Prop) [Decidable p] [Decidable q] : (if decide p = true then some (decide q) else some false) = some (decide (p ∧ q)) := by
  by_cases h : p <;> simp [h]
theorem some_dec {p q : Prop} [Decidable p] [Decidable q] (h : p ↔ q) : some (decide p) = some (decide q) := by rw [decide_eq_decide.2 h]
theorem div_in {x g : Int} {M : Int} (hM : M ≤ 9223372036854775807) (h : -M ≤ x) (h' : x ≤ M) (hd : g ∣ x) (h0 : g ≠ 0) : wrap64 (Int.tdiv x g) = x / g := by
  rw [Int.tdiv_eq_ediv_of_dvd hd]
  obtain ⟨c, rfl⟩ := hd
  rw [Int.mul_ediv_cancel_left _ h0]
  have : c.natAbs ≤ (g * c).natAbs := by rw [Int.natAbs_mul]; exact Nat.le_mul_of_pos_left _ (by omega)
  exact wrap_id (by omega) (by omega)
theorem l1In_eq (a b c : Int) : spec_l1In.f a b c = some (decide (b ≤ a ∧ a ≤ c)) := by
  unfold spec_l1In.f
  by_cases h : a ≥ b
  · rw [if_pos h]; simp [show b ≤ a from h]
  · rw [if_neg h]; simp; omega
theorem within_eq (a b c : Int) : impl_within.f a b c = some (decide (b ≤ a ∧ a ≤ c)) := by
  unfold impl_within.f
  by_cases h : a ≥ b
  · rw [if_pos h]; simp [show b ≤ a from h]
  · rw [if_neg h]; simp; omega

abbrev clueOk (kd a b : Int) : Prop := (0 ≤ a ∧ a ≤ 100) ∧ (0 ≤ b ∧ b ≤ 100) ∧ ((kd = 0 ∧ a = 0 ∧ b ≤ 1) ∨ ((kd = 1 ∨ kd = 2 ∨ kd = 5) ∧ a = 0) ∨ ((kd = 3 ∨ kd = 4) ∧ 1 ≤ b))
theorem pzClue_eq (k : Nat) (kd a b : Int) : spec_pzClue.f (k + 2) kd a b = some (decide (clueOk kd a b)) := by
  unfold clueOk
  simp only [spec_pzClue.f, spec_pzClue.j0, spec_pzClue.j1, l1In_eq, Option.bind_some]
  by_cases h2 : 0 ≤ a ∧ a ≤ 100
  · by_cases h3 : 0 ≤ b ∧ b ≤ 100
    · simp only [h2, h3, decide_true, if_true, Bool.not_true, Bool.false_eq_true, if_false, Option.bind_some, true_and, and_self]
      by_cases k0 : kd = 0
      · subst k0; by_cases h4 : a = 0
        · subst h4; simp; omega
        · simp [h4]
      · by_cases k1 : kd = 1
        · subst k1; simp
          by_cases h4 : a = 0 <;> simp [h4]
        · by_cases k2 : kd = 2
          · subst k2; simp
            by_cases h4 : a = 0 <;> simp [h4]
          · by_cases k5 : kd = 5
            · subst k5; simp
              by_cases h4 : a = 0 <;> simp [h4]
            · have k5' : (kd == 5) = false := by simpa using k5
              by_cases k3 : kd = 3
              · subst k3; simp; omega
              · by_cases k4 : kd = 4
                · subst k4; simp; omega
                · simp [k0, k1, k2, k3, k4, k5]
    · simp [h2, h3]
  · simp only [h2, decide_false, Bool.false_eq_true, if_false, false_and, if_true]
theorem IsClue_eq (k : Nat) (of kd a b : Int) : impl_IsClue.f (k + 1) of kd a b = some (decide ((1 ≤ of ∧ of ≤ 8) ∧ clueOk kd a b)) := by
  unfold clueOk
  unfold impl_IsClue.f impl_isTwo.f
  by_cases k3 : kd = 3
  · rw [if_pos k3]; simp only [Option.bind_some, if_true, impl_IsClue.j0, within_eq, ite_dec]
    exact some_dec (by omega)
  · rw [if_neg k3]
    by_cases k4 : kd = 4
    · have e : (kd == 4) = true := by simpa using k4
      simp only [e, Option.bind_some, if_true, impl_IsClue.j0, within_eq, ite_dec]
      exact some_dec (by omega)
    · have e : (kd == 4) = false := by simpa using k4
      rw [e]; simp only [Option.bind_some, Bool.false_eq_true, if_false]
      by_cases k0 : kd = 0
      · rw [if_pos k0]; simp only [impl_IsClue.j0, within_eq, Option.bind_some, ite_dec]
        exact some_dec (by omega)
      · rw [if_neg k0]; simp only [impl_IsClue.j0, within_eq, Option.bind_some, ite_dec]
        exact some_dec (by omega)
abbrev cvClue (x : S49) : S40 := ⟨x.f0, x.f1, x.f2⟩
theorem szPuzzle_eq (o : Int) (l : List S49) (hl : l.length ≤ 9223372036854775807) : laws_szPuzzle.f o l 1048576 = some (if l.length ≤ 1048576 then 1048576 - (l.length : Int) else -1) := by
  unfold laws_szPuzzle.f laws_szClueS.f
  have e : wrap64 (1048576 - (l.length : Int)) = 1048576 - (l.length : Int) := wrap_id (by omega) (by omega)
  rw [e]
  by_cases h : l.length ≤ 1048576
  · rw [if_neg (by omega)]; simp only [Option.bind_some]; rw [if_neg (by omega), if_pos h]
  · rw [if_pos (by omega)]; simp only [Option.bind_some]; rw [if_pos (by omega), if_neg h]
theorem rdl_get (xs : List S49) (i : Int) (h : i.toNat < xs.length) : rd_T49 xs i = xs[i.toNat] := by unfold rd_T49; rw [List.getD_eq_getElem?_getD, List.getElem?_eq_getElem h]; rfl
theorem toClueS_l0 (l : List S49) (hl : l.length ≤ 1048576) : ∀ (d : Nat) (i : Int) (out : List S40), 0 ≤ i → i + d = l.length → out.length = l.length → (∀ j : Nat, (j : Int) < i → out[j]? = (l.map cvClue)[j]?) →
    Mth.Evn (fun k => laws_toClueS.l0 k l out i) (l.map cvClue)
  | 0, i, out, h0, hi, ho, hs => by
    refine (Mth.Evn.now _).step fun k => ?_
    simp only [laws_toClueS.l0]; rw [if_neg (by omega)]
    congr 1
    apply List.ext_getElem?
    intro j
    by_cases hj : (j : Int) < i
    · exact hs j hj
    · rw [List.getElem?_eq_none (by omega), List.getElem?_eq_none (by simp; omega)]
  | d + 1, i, out, h0, hi, ho, hs => by
    refine (toClueS_l0 l hl d (i + 1) (out.set i.toNat (cvClue (rd_T49 l i))) (by omega) (by omega) (by simpa using ho) (fun j hj => ?_)).step fun k => ?_
    · by_cases e : j = i.toNat
      · subst e
        rw [List.getElem?_set_self (by omega), rdl_get l i (by omega), List.getElem?_map, List.getElem?_eq_getElem (by omega)]; rfl
      · rw [List.getElem?_set_ne (by omega)]; exact hs j (by omega)
    · simp only [laws_toClueS.l0]
      rw [if_pos (by omega), if_pos h0]
      simp only [laws_toClue.f, Option.bind_some]
      rw [if_pos (by omega), wrap_id (x := i + 1) (by omega) (by omega)]
theorem toClueS_ev (l : List S49) (hl : l.length ≤ 1048576) : Mth.Evn (fun k => laws_toClueS.f k l) (l.map cvClue) := by
  unfold laws_toClueS.f
  have e1 : (0 : Int) ≤ (l.length : Int) := by omega
  have e2 : ((l.length : Int) : Int).toNat ≤ 11728124029610 := by omega
  simp only [if_pos e1, if_pos e2]
  exact toClueS_l0 l hl l.length 0 (List.replicate ((l.length : Int) : Int).toNat _) (by omega) (by omega) (by simp) (fun j hj => by omega)
theorem toPuzzle_ev (o : Int) (l : List S49) (hl : l.length ≤ 1048576) : Mth.Evn (fun k => laws_toPuzzle.f k o l) (o, l.map cvClue) := by
  unfold laws_toPuzzle.f
  exact (toClueS_ev l hl).bind (Mth.Evn.now _)
theorem rdg_get (xs : List S40) (i : Int) (h : i.toNat < xs.length) : rd_T40 xs i = xs[i.toNat] := by unfold rd_T40; rw [List.getD_eq_getElem?_getD, List.getElem?_eq_getElem h]; rfl
theorem eqClueS_evn (xs : List S40) (hl : xs.length ≤ 1048576) : Mth.Evn (fun k => laws_eqClueS.f k xs xs) true := by
  have go : ∀ (d : Nat) (i : Int), 0 ≤ i → i + d = xs.length → Mth.Evn (fun k => laws_eqClueS.l0 k xs xs i) true := by
    intro d
    induction d with
    | zero =>
      intro i h0 hi
      refine (Mth.Evn.now _).step fun k => ?_
      simp only [laws_eqClueS.l0]; rw [if_neg (by omega)]
    | succ d ih =>
      intro i h0 hi
      refine (ih (i + 1) (by omega) (by omega)).step fun k => ?_
      simp only [laws_eqClueS.l0]
      rw [if_pos (by omega), if_pos h0, if_pos (by omega)]
      unfold laws_eqClue.f
      rw [if_pos rfl, if_pos rfl, if_pos rfl]
      simp only [Option.bind_some, if_true]
      rw [wrap_id (x := i + 1) (by omega) (by omega)]
  unfold laws_eqClueS.f
  refine Mth.Evn.congr (fun k => if_pos rfl) ?_
  exact go xs.length 0 (by omega) (by omega)
theorem eqPuzzle_evn (o : Int) (xs : List S40) (hl : xs.length ≤ 1048576) : Mth.Evn (fun k => laws_eqPuzzle.f k o xs o xs) true := by
  unfold laws_eqPuzzle.f
  refine Mth.Evn.congr (fun k => if_pos rfl) ?_
  exact (eqClueS_evn xs hl).bind (Mth.Evn.now _)
/-- What makes a puzzle. -/
def goodP (o : Int) (l : List S40) : Bool := decide (1 ≤ o ∧ o ≤ 8) && (decide (l.length ≤ 6) && l.all fun x => decide (clueOk x.f0 x.f1 x.f2))
theorem anyO_some (f : S40 → Option Bool) (p : S40 → Bool) : ∀ l : List S40, (∀ x, x ∈ l → f x = some (p x)) → anyO f l = some (l.any p)
  | [], _ => rfl
  | x :: xs, h => by
    simp only [anyO, h x (by simp), Option.bind_some, List.any_cons]
    cases e : p x with
    | true => simp
    | false => simpa using anyO_some f p xs (fun y hy => h y (by simp [hy]))
theorem IsPuzzle_evn (o : Int) (l : List S40) : Mth.Evn (fun k => impl_IsPuzzle.f k o l) (goodP o l) := by
  refine ⟨1, fun k hk => ?_⟩
  obtain ⟨k, rfl⟩ : ∃ j, k = j + 1 := ⟨k - 1, by omega⟩
  show impl_IsPuzzle.f (k + 1) o l = _
  unfold impl_IsPuzzle.f impl_Clue.f
  rw [within_eq]; simp only [Option.bind_some]
  unfold goodP
  by_cases ho : 1 ≤ o ∧ o ≤ 8
  · rw [decide_eq_true ho, if_pos rfl]
    by_cases hl : l.length ≤ 6
    · rw [if_pos (by omega), if_pos (by omega), anyO_some _ (fun x => !decide (clueOk x.f0 x.f1 x.f2)) l (fun x _ => ?_)]
      · simp only [Option.bind_some, decide_eq_true hl, Bool.true_and, List.not_any_eq_all_not, Bool.not_not]
      · rw [IsClue_eq]; simp [ho]
    · rw [if_neg (by omega), decide_eq_false hl]; simp
  · rw [decide_eq_false ho, if_neg (by simp)]; simp
theorem pzGood_l0 (l : List S40) (hl : l.length ≤ 6) : ∀ (d : Nat) (i : Int), 0 ≤ i → i + d = l.length →
    Mth.Evn (fun k => spec_pzGood.l0 k l (l.length : Int) i) ((l.drop i.toNat).all fun x => decide (clueOk x.f0 x.f1 x.f2))
  | 0, i, h0, hi => by
    rw [List.drop_eq_nil_of_le (by omega)]
    refine (Mth.Evn.now _).step fun k => ?_
    simp only [spec_pzGood.l0]; rw [if_neg (by omega)]; rfl
  | d + 1, i, h0, hi => by
    have hlt : i.toNat < l.length := by omega
    rw [List.drop_eq_getElem_cons hlt]
    have ih := pzGood_l0 l hl d (i + 1) (by omega) (by omega)
    rw [show (i + 1).toNat = i.toNat + 1 by omega] at ih
    have hq : Mth.Evn (fun k => spec_pzClue.f k ((rd_T40 l i).f0) ((rd_T40 l i).f1) ((rd_T40 l i).f2)) (decide (clueOk (l[i.toNat]).f0 (l[i.toNat]).f1 (l[i.toNat]).f2)) := by
      refine ⟨2, fun k hk => ?_⟩
      obtain ⟨k, rfl⟩ : ∃ j, k = j + 2 := ⟨k - 2, by omega⟩
      show spec_pzClue.f (k + 2) _ _ _ = _
      rw [pzClue_eq, rdg_get l i hlt]
    refine Mth.Evn.step (g := fun k => (spec_pzClue.f k ((rd_T40 l i).f0) ((rd_T40 l i).f1) ((rd_T40 l i).f2)).bind fun t => if t = true then spec_pzGood.l0 k l (l.length : Int) (i + 1) else some false) (fun k => ?_) (hq.bind ?_)
    · simp only [spec_pzGood.l0]
      rw [if_pos (by omega), if_pos h0, if_pos (by omega), wrap_id (x := i + 1) (by omega) (by omega)]
    · by_cases h : clueOk (l[i.toNat]).f0 (l[i.toNat]).f1 (l[i.toNat]).f2
      · simp only [List.all_cons, decide_eq_true h, if_true, Bool.true_and]; exact ih
      · simp only [List.all_cons, decide_eq_false h, Bool.false_and]
        exact Mth.Evn.congr (fun k => if_neg (by simp)) (Mth.Evn.now _)
theorem pzGood_evn (o : Int) (l : List S40) : Mth.Evn (fun k => spec_pzGood.f k o l) (goodP o l) := by
  have ep : spec_pzOf.f o = some (decide (1 ≤ o ∧ o ≤ 8)) := by unfold spec_pzOf.f; rw [l1In_eq]; rfl
  unfold spec_pzGood.f goodP
  rw [ep]; simp only [Option.bind_some]
  by_cases ho : 1 ≤ o ∧ o ≤ 8
  · rw [decide_eq_true ho]
    refine Mth.Evn.congr (fun k => if_pos rfl) ?_
    by_cases hl : l.length ≤ 6
    · refine Mth.Evn.step (g := fun k => spec_pzGood.l0 k l (l.length : Int) 0) (fun k => ?_) ?_
      · simp only [spec_pzGood.j0]; rw [decide_eq_false (by omega), if_neg (by simp)]
      · simpa [hl] using pzGood_l0 l hl l.length 0 (by omega) (by omega)
    · refine Mth.Evn.step (g := fun k => some false) (fun k => ?_) ?_
      · simp only [spec_pzGood.j0]; rw [decide_eq_true (by omega), if_pos rfl]
      · simpa [hl] using Mth.Evn.now false
  · rw [decide_eq_false ho]
    refine Mth.Evn.congr (fun k => if_neg (by simp)) ?_
    refine Mth.Evn.step (g := fun k => some false) (fun k => ?_) (by simpa using Mth.Evn.now false)
    simp only [spec_pzGood.j0]; rw [if_pos trivial]
/-- A number in decimal. -/
def dig (n : Nat) : ByteArray := ⟨(Lib.decDigits n).toArray⟩
theorem dec_small {n : Nat} (h : n < 10) : Lib.decDigits n = [UInt8.ofNat (48 + n)] := by rw [Lib.decDigits, dif_pos h]
theorem dec_big {n : Nat} (h : ¬ n < 10) : Lib.decDigits n = Lib.decDigits (n / 10) ++ [UInt8.ofNat (48 + n % 10)] := by rw [Lib.decDigits, dif_neg h]
theorem dec_len : ∀ (d n : Nat), n < 10 ^ (d + 1) → (Lib.decDigits n).length ≤ d + 1
  | 0, n, h => by rw [dec_small (by simpa using h)]; simp
  | d + 1, n, h => by
    by_cases h10 : n < 10
    · rw [dec_small h10]; simp
    · rw [dec_big h10]
      have := dec_len d (n / 10) (by rw [Nat.pow_succ] at h; omega)
      simp; omega
theorem dig_size (d n : Nat) (h : n < 10 ^ (d + 1)) : (dig n).size ≤ d + 1 := by
  have := dec_len d n h
  unfold dig; simpa [ByteArray.size] using this
theorem one_digit (n : Nat) (h : n < 10) : strOfNums [(wrap64 (48 + (n : Int))) % 256] = ⟨#[UInt8.ofNat (48 + n)]⟩ := by
  rw [wrap_id (by omega) (by omega), show (48 + (n : Int)) % 256 = ((48 + n : Nat) : Int) by omega]; rfl
theorem bytes_app (a b : List UInt8) : (⟨a.toArray⟩ : ByteArray) ++ ⟨b.toArray⟩ = ⟨(a ++ b).toArray⟩ := by
  apply ByteArray.ext
  simp
theorem l1Num_at : ∀ (d n k : Nat), n < 10 ^ (d + 1) → d < 18 → d < k → spec_l1Num.f k (n : Int) = some (dig n)
  | d, n, k, h, hd, hk => by
    obtain ⟨k, rfl⟩ : ∃ m, k = m + 1 := ⟨k - 1, by omega⟩
    have hp : n < 10 ^ 18 := Nat.lt_of_lt_of_le h (Nat.pow_le_pow_right (by omega) (by omega))
    have e18 : 10 ^ 18 = 1000000000000000000 := by decide
    simp only [spec_l1Num.f]
    by_cases h10 : n < 10
    · rw [if_pos (by omega), one_digit n h10, dig, dec_small h10]
    · rw [if_neg (by omega)]
      have et : Int.tdiv (n : Int) 10 = ((n / 10 : Nat) : Int) := by rw [Int.tdiv_eq_ediv_of_nonneg (by omega)]; omega
      have em : Int.tmod (n : Int) 10 = ((n % 10 : Nat) : Int) := by rw [Int.tmod_eq_emod_of_nonneg (by omega)]; omega
      obtain ⟨d, rfl⟩ : ∃ m, d = m + 1 := ⟨d - 1, by
        have : d ≠ 0 := by rintro rfl; simp at h; omega
        omega⟩
      have h1 : n / 10 < 10 ^ (d + 1) := by rw [Nat.pow_succ] at h; omega
      rw [et, em, wrap_id (x := ((n / 10 : Nat) : Int)) (by omega) (by omega), l1Num_at d (n / 10) k h1 (by omega) (by omega)]
      simp only [Option.bind_some]
      rw [one_digit (n % 10) (by omega)]
      have hs := dig_size d (n / 10) h1
      have h2 : (⟨#[UInt8.ofNat (48 + n % 10)]⟩ : ByteArray).size = 1 := rfl
      rw [if_pos (by omega)]
      rw [dig, dig, dec_big h10, ← bytes_app]
theorem bytes_eq {a b : ByteArray} (h : a.data.toList = b.data.toList) : a = b := by
  apply ByteArray.ext
  exact Array.toList_inj.1 h
theorem app_list (a b : ByteArray) : (a ++ b).data.toList = a.data.toList ++ b.data.toList := by simp
theorem num_ev {z : Int} (h : 0 ≤ z) (h' : z ≤ 100) : Mth.Evn (fun k => spec_l1Num.f k z) (dig z.toNat) := by
  refine ⟨3, fun k hk => ?_⟩
  show spec_l1Num.f k z = _
  have := l1Num_at 2 z.toNat k (by simp; omega) (by omega) (by omega)
  rwa [show ((z.toNat : Nat) : Int) = z by omega] at this
theorem itoa_ev {z : Int} (h : 0 ≤ z) (h' : z ≤ 100) : strconv_Itoa.f z = some (dig z.toNat) := by
  unfold strconv_Itoa.f
  rw [if_pos (by omega), Lib.itoa, if_neg (by omega)]
  rfl
theorem dg_size {z : Int} (h' : z ≤ 100) : (dig z.toNat).size ≤ 3 := dig_size 2 z.toNat (by simp; omega)
theorem z44 : (⟨#[44]⟩ : ByteArray).size = 1 := rfl
theorem z46 : (⟨#[46]⟩ : ByteArray).size = 1 := rfl
theorem z58 : (⟨#[58]⟩ : ByteArray).size = 1 := rfl
/-- A clue's text. -/
def wB (x : S40) : ByteArray := ((((dig x.f0.toNat) ++ (⟨#[46]⟩ : ByteArray)) ++ (dig x.f1.toNat)) ++ (⟨#[46]⟩ : ByteArray)) ++ (dig x.f2.toNat)
def small (x : S40) : Prop := (0 ≤ x.f0 ∧ x.f0 ≤ 100) ∧ (0 ≤ x.f1 ∧ x.f1 ≤ 100) ∧ (0 ≤ x.f2 ∧ x.f2 ≤ 100)
theorem wB_size {x : S40} (h : small x) : (wB x).size ≤ 11 := by
  obtain ⟨h0, h1, h2⟩ := h
  have := dg_size h0.2; have := dg_size h1.2; have := dg_size h2.2
  unfold wB
  simp only [ByteArray.size_append, z46]; omega
/-- Words with a sign between. -/
def tl44 (l : List S40) : List UInt8 := l.flatMap fun x => 44 :: (wB x).data.toList
def txt (l : List S40) : List UInt8 := match l with
  | [] => []
  | x :: xs => (wB x).data.toList ++ tl44 xs
theorem join44 : ∀ (l : List S40), Lib.join ((l.map wB).map fun b => b.data.toList) [44] = txt l
  | [] => by simp [Lib.join, List.intercalate, txt]
  | [x] => by simp [Lib.join, List.intercalate, txt, tl44]
  | x :: y :: l => by
    have ih := join44 (y :: l)
    simp only [Lib.join, List.intercalate, List.map_cons, txt] at ih ⊢
    rw [List.intersperse_cons_cons, List.flatten_cons, List.flatten_cons, ih]
    simp [tl44]
theorem tl44_len : ∀ (l : List S40), (∀ x, x ∈ l → small x) → (tl44 l).length ≤ 12 * l.length
  | [], _ => by simp [tl44]
  | x :: l, h => by
    have ih := tl44_len l (fun y hy => h y (List.mem_cons_of_mem _ hy))
    have hb := wB_size (h x List.mem_cons_self)
    have e : (wB x).data.toList.length = (wB x).size := by rw [Array.length_toList]; rfl
    unfold tl44 at ih ⊢
    rw [List.flatMap_cons, List.length_append, List.length_cons, List.length_cons, e]; omega
theorem txt_len : ∀ (l : List S40), (∀ x, x ∈ l → small x) → (txt l).length ≤ 12 * l.length
  | [], _ => by simp [txt]
  | x :: l, h => by
    have ih := tl44_len l (fun y hy => h y (List.mem_cons_of_mem _ hy))
    have hb := wB_size (h x List.mem_cons_self)
    have e : (wB x).data.toList.length = (wB x).size := by rw [Array.length_toList]; rfl
    unfold txt
    rw [List.length_append, List.length_cons, e]; omega
theorem app_size (a b : ByteArray) : (a ++ b).size = a.size + b.size := ByteArray.size_append
/-- The reference model's loop over the clues, behind the first one. -/
theorem pzText_l0 (l : List S40) (hl : l.length ≤ 6) (hs : ∀ x, x ∈ l → small x) : ∀ (d : Nat) (i : Nat) (acc : ByteArray), 0 < i → i + d = l.length → acc.size + 12 * d ≤ 1000 →
    Mth.Evn (fun k => spec_pzText.l0 k acc l (l.length : Int) i) (⟨(acc.data.toList ++ tl44 (l.drop i)).toArray⟩ : ByteArray)
  | 0, i, acc, h0, hi, ha => by
    refine (Mth.Evn.now _).step fun k => ?_
    simp only [spec_pzText.l0]
    rw [if_neg (by omega), List.drop_of_length_le (by omega)]
    exact congrArg some (bytes_eq (by simp [tl44]))
  | d + 1, i, acc, h0, hi, ha => by
    have hlt : i < l.length := by omega
    have er : rd_T40 l (i : Int) = l[i] := by rw [rdg_get l (i : Int) (by omega)]; rfl
    obtain ⟨g0, g1, g2⟩ := hs _ (List.getElem_mem hlt)
    have s0 := dg_size g0.2; have s1 := dg_size g1.2; have s2 := dg_size g2.2
    have hw := wB_size (hs _ (List.getElem_mem hlt))
    have e : acc.data.toList ++ tl44 (l.drop i) = ((acc ++ (⟨#[44]⟩ : ByteArray)) ++ wB l[i]).data.toList ++ tl44 (l.drop (i + 1)) := by
      have et : tl44 (l.drop i) = 44 :: ((wB l[i]).data.toList ++ tl44 (l.drop (i + 1))) := by rw [List.drop_eq_getElem_cons hlt]; unfold tl44; rw [List.flatMap_cons]; rfl
      rw [et, app_list, app_list, List.append_assoc, List.append_assoc]; rfl
    have ih := pzText_l0 l hl hs d (i + 1) ((acc ++ (⟨#[44]⟩ : ByteArray)) ++ wB l[i]) (by omega) (by omega) (by rw [app_size, app_size, z44]; omega)
    rw [← e] at ih
    refine Mth.Evn.step (fun k => by simp only [spec_pzText.l0, er]; rw [if_pos (by omega), if_pos (by omega), if_pos (by omega), if_pos (by omega), if_pos (by omega)]) ?_
    refine (num_ev g0.1 g0.2).bind ?_
    refine Mth.Evn.congr (fun k => if_pos (by omega)) ?_
    refine (num_ev g1.1 g1.2).bind ?_
    refine Mth.Evn.congr (fun k => (if_pos (by rw [app_size, z46]; omega)).trans (if_pos (by rw [app_size, app_size, z46]; omega))) ?_
    refine (num_ev g2.1 g2.2).bind ?_
    refine Mth.Evn.congr (fun k => (if_pos (by rw [app_size, app_size, app_size, z46]; omega)).trans (if_pos (by show _ + (wB l[i]).size ≤ _; rw [app_size, z44]; omega))) ?_
    refine Mth.Evn.congr (fun k => ?_) ih
    rw [wrap_id (x := (i : Int) + 1) (by omega) (by omega)]
    rfl
theorem pzText_ev {o : Int} (ho : 0 ≤ o) (ho' : o ≤ 100) (l : List S40) (hl : l.length ≤ 6) (hs : ∀ x, x ∈ l → small x) : Mth.Evn (fun k => spec_pzText.f k o l) (⟨((dig o.toNat).data.toList ++ [58] ++ txt l).toArray⟩ : ByteArray) := by
  have so := dg_size ho'
  unfold spec_pzText.f
  refine (num_ev ho ho').bind ?_
  refine Mth.Evn.congr (fun k => if_pos (by omega)) ?_
  cases l with
  | nil =>
    refine (Mth.Evn.now _).step fun k => ?_
    simp only [spec_pzText.l0]
    rw [if_neg (by simp)]
    exact congrArg some (bytes_eq (by rw [app_list]; simp [txt]))
  | cons x xs =>
    have hx := hs x List.mem_cons_self
    obtain ⟨g0, g1, g2⟩ := id hx
    have s0 := dg_size g0.2; have s1 := dg_size g1.2; have s2 := dg_size g2.2
    have hw := wB_size hx
    have er : rd_T40 (x :: xs) (0 : Int) = x := by rw [rdg_get (x :: xs) (0 : Int) (by simp)]; rfl
    have ln : (x :: xs).length = xs.length + 1 := rfl
    have ih := pzText_l0 (x :: xs) hl hs xs.length 1 ((dig o.toNat ++ (⟨#[58]⟩ : ByteArray)) ++ wB x) (by omega) (by rw [ln]; omega) (by rw [app_size, app_size, z58]; omega)
    have e : ((dig o.toNat ++ (⟨#[58]⟩ : ByteArray)) ++ wB x).data.toList ++ tl44 ((x :: xs).drop 1) = (dig o.toNat).data.toList ++ [58] ++ txt (x :: xs) := by
      rw [app_list, app_list, List.append_assoc]; rfl
    rw [e] at ih
    refine Mth.Evn.step (fun k => by simp only [spec_pzText.l0, er]; rw [if_pos (by omega), if_pos (by omega), if_pos (by omega), if_neg (by omega)]) ?_
    refine (num_ev g0.1 g0.2).bind ?_
    refine Mth.Evn.congr (fun k => if_pos (by omega)) ?_
    refine (num_ev g1.1 g1.2).bind ?_
    refine Mth.Evn.congr (fun k => (if_pos (by rw [app_size, z46]; omega)).trans (if_pos (by rw [app_size, app_size, z46]; omega))) ?_
    refine (num_ev g2.1 g2.2).bind ?_
    refine Mth.Evn.congr (fun k => (if_pos (by rw [app_size, app_size, app_size, z46]; omega)).trans (if_pos (by show _ + (wB x).size ≤ _; rw [app_size, z58]; omega))) ?_
    refine Mth.Evn.congr (fun k => ?_) ih
    rw [wrap_id (x := (0 : Int) + 1) (by omega) (by omega)]
    rfl
theorem join_ev {l : List ByteArray} {s : ByteArray} (hl : l.length ≤ 1000) {r : List UInt8} (hr : Lib.join (l.map fun b => b.data.toList) s.data.toList = r) (hz : r.length ≤ 1000000) : strings_Join.f l s = some ⟨r.toArray⟩ := by
  unfold strings_Join.f
  rw [hr, if_pos ⟨by omega, by omega⟩]
/-- A clue's three numbers, joined. -/
theorem joined_ev {x : S40} (h : small x) : Mth.Evn (fun k => impl_joined.f k [x.f0, x.f1, x.f2] (⟨#[46]⟩ : ByteArray)) (wB x) := by
  obtain ⟨h0, h1, h2⟩ := id h
  have hw := wB_size h
  have j : strings_Join.f [dig x.f0.toNat, dig x.f1.toNat, dig x.f2.toNat] (⟨#[46]⟩ : ByteArray) = some (wB x) := by
    have e : (wB x).data.toList = Lib.join ([dig x.f0.toNat, dig x.f1.toNat, dig x.f2.toNat].map fun b => b.data.toList) (⟨#[46]⟩ : ByteArray).data.toList := by
      unfold wB
      simp [Lib.join, List.intercalate, app_list]
    have el : (wB x).data.toList.length = (wB x).size := by rw [Array.length_toList]; rfl
    rw [join_ev (by simp) e.symm (by omega)]
  unfold impl_joined.f
  refine Mth.Evn.congr (fun k => (if_pos (by simp)).trans (if_pos (by simp))) ?_
  have i0 := itoa_ev h0.1 h0.2
  have i1 := itoa_ev h1.1 h1.2
  have i2 := itoa_ev h2.1 h2.2
  have hE : Mth.Evn (fun k => impl_joined.l0 k (⟨#[46]⟩ : ByteArray) [(⟨#[]⟩ : ByteArray), (⟨#[]⟩ : ByteArray), (⟨#[]⟩ : ByteArray)] [x.f0, x.f1, x.f2] 3 0) (wB x) := by
    have w1 : wrap64 (0 + 1) = 1 := wrap_id (by omega) (by omega)
    have w2 : wrap64 (1 + 1) = 2 := wrap_id (by omega) (by omega)
    have w3 : wrap64 (2 + 1) = 3 := wrap_id (by omega) (by omega)
    have r0 : rd [x.f0, x.f1, x.f2] 0 = x.f0 := rfl
    have r1 : rd [x.f0, x.f1, x.f2] 1 = x.f1 := rfl
    have r2 : rd [x.f0, x.f1, x.f2] 2 = x.f2 := rfl
    refine Mth.Evn.step (g := fun k => impl_joined.l0 k (⟨#[46]⟩ : ByteArray) [dig x.f0.toNat, (⟨#[]⟩ : ByteArray), (⟨#[]⟩ : ByteArray)] [x.f0, x.f1, x.f2] 3 1) (fun k => ?_) ?_
    · simp only [impl_joined.l0, r0, i0, w1]; rfl
    refine Mth.Evn.step (g := fun k => impl_joined.l0 k (⟨#[46]⟩ : ByteArray) [dig x.f0.toNat, dig x.f1.toNat, (⟨#[]⟩ : ByteArray)] [x.f0, x.f1, x.f2] 3 2) (fun k => ?_) ?_
    · simp only [impl_joined.l0, r1, i1, w2]; rfl
    refine Mth.Evn.step (g := fun k => impl_joined.l0 k (⟨#[46]⟩ : ByteArray) [dig x.f0.toNat, dig x.f1.toNat, dig x.f2.toNat] [x.f0, x.f1, x.f2] 3 3) (fun k => ?_) ?_
    · simp only [impl_joined.l0, r2, i2, w3]; rfl
    refine (Mth.Evn.now _).step fun k => ?_
    simp only [impl_joined.l0, j]; rfl
  exact hE
theorem impl_l0 {o : Int} (ho : 0 ≤ o) (ho' : o ≤ 100) (l : List S40) (hl : l.length ≤ 6) (hs : ∀ x, x ∈ l → small x) : ∀ (d i : Nat) (out : List ByteArray), i + d = l.length → out.length = l.length → (∀ j : Nat, j < i → out[j]? = (l.map wB)[j]?) →
    Mth.Evn (fun k => impl_PuzzleText.l0 k out l (l.length : Int) i o l) ((⟨((dig o.toNat).data.toList ++ [58] ++ txt l).toArray⟩ : ByteArray), true)
  | 0, i, out, hi, ho1, hj => by
    have e : out = l.map wB := by
      apply List.ext_getElem?
      intro j
      by_cases h : j < i
      · exact hj j h
      · rw [List.getElem?_eq_none (by omega), List.getElem?_eq_none (by simp; omega)]
    have ht := txt_len l hs
    have so := dg_size ho'
    have et : (⟨(txt l).toArray⟩ : ByteArray).size = (txt l).length := rfl
    refine (Mth.Evn.now _).step fun k => ?_
    simp only [impl_PuzzleText.l0]
    rw [if_neg (by omega), itoa_ev ho ho', e, join_ev (by simp; omega) (join44 l) (by omega)]
    simp only [Option.bind_some]
    rw [if_pos (by omega), if_pos (by rw [app_size, z58, et]; omega)]
    exact congrArg (fun b => some (b, true)) (bytes_eq (by rw [app_list, app_list]))
  | d + 1, i, out, hi, ho1, hj => by
    have hlt : i < l.length := by omega
    have er : rd_T40 l (i : Int) = l[i] := by rw [rdg_get l (i : Int) (by omega)]; rfl
    have ih := impl_l0 ho ho' l hl hs d (i + 1) (out.set i (wB l[i])) (by omega) (by simpa using ho1) (fun j hjl => by
      by_cases h : j = i
      · subst h
        rw [List.getElem?_set_self (by omega), List.getElem?_map, List.getElem?_eq_getElem hlt]; rfl
      · rw [List.getElem?_set_ne (by omega)]; exact hj j (by omega))
    refine Mth.Evn.step (fun k => by simp only [impl_PuzzleText.l0, er]; rw [if_pos (by omega), if_pos (by omega), if_pos (by omega)]) ?_
    refine (joined_ev (hs _ (List.getElem_mem hlt))).bind ?_
    refine Mth.Evn.congr (fun k => ?_) ih
    rw [if_pos (by omega), wrap_id (x := (i : Int) + 1) (by omega) (by omega)]
    rfl
theorem two_text (o : Int) (l : List S40) : ∃ (T : ByteArray) (b : Bool), Mth.Evn (fun k => spec_PuzzleText.f k o l) (T, b) ∧ Mth.Evn (fun k => impl_PuzzleText.f k o l) (T, b) := by
  have g1 := pzGood_evn o l
  have g2 := IsPuzzle_evn o l
  cases hg : goodP o l with
  | false =>
    rw [hg] at g1 g2
    refine ⟨(⟨#[]⟩ : ByteArray), false, ?_, ?_⟩
    · unfold spec_PuzzleText.f
      refine g1.bind ?_
      exact Mth.Evn.congr (fun k => if_neg (by simp)) (Mth.Evn.now _)
    · unfold impl_PuzzleText.f
      refine g2.bind ?_
      exact Mth.Evn.congr (fun k => if_neg (by simp)) (Mth.Evn.now _)
  | true =>
    rw [hg] at g1 g2
    unfold goodP at hg
    simp only [Bool.and_eq_true, decide_eq_true_eq, List.all_eq_true] at hg
    obtain ⟨h1, h2, h3⟩ := hg
    have hs : ∀ x, x ∈ l → small x := by
      intro x hx
      obtain ⟨c1, c2, c3⟩ := h3 x hx
      exact ⟨by omega, c1, c2⟩
    refine ⟨(⟨((dig o.toNat).data.toList ++ [58] ++ txt l).toArray⟩ : ByteArray), true, ?_, ?_⟩
    · unfold spec_PuzzleText.f
      refine g1.bind ?_
      refine Mth.Evn.congr (fun k => if_pos rfl) ?_
      exact (pzText_ev (o := o) (by omega) (by omega) l h2 hs).bind (Mth.Evn.now _)
    · unfold impl_PuzzleText.f
      refine g2.bind ?_
      refine Mth.Evn.congr (fun k => (if_pos rfl).trans ((if_pos (by omega)).trans (if_pos (by omega)))) ?_
      exact impl_l0 (o := o) (by omega) (by omega) l h2 hs l.length 0 (List.replicate ((l.length : Int) : Int).toNat _) (by omega) (by simp) (fun j hj => by omega)
theorem holds (a0_0 : Int) (l0_1 : List S49) (w0_0 : (Lit.int .i64 a0_0).wf = true) (w0_1 : l0_1.length ≤ 9223372036854775807) : ∃ k, laws_FnExactPuzzleText.f k a0_0 l0_1 = some true := by
  have hE : Mth.Evn (fun k => laws_FnExactPuzzleText.f k a0_0 l0_1) true := by
    unfold laws_FnExactPuzzleText.f
    rw [szPuzzle_eq _ _ w0_1]; simp only [Option.bind_some]
    by_cases hl : l0_1.length ≤ 1048576
    · rw [if_pos hl]
      refine Mth.Evn.congr (fun k => if_neg (by omega)) ?_
      have ht := toPuzzle_ev a0_0 l0_1 hl
      obtain ⟨T, b, hs, hi⟩ := two_text a0_0 (l0_1.map cvClue)
      have he : Mth.Evn (fun k => laws_eqPuzzle.f k a0_0 (l0_1.map cvClue) a0_0 (l0_1.map cvClue)) true := eqPuzzle_evn _ _ (by simpa using hl)
      refine ht.bind (hs.bind (ht.bind (hi.bind ?_)))
      refine Mth.Evn.congr (fun k => if_pos rfl) ?_
      refine Mth.Evn.step (fun k => by simp only [laws_FnExactPuzzleText.j0]; rw [if_neg (by simp)]) ?_
      refine ht.bind (he.bind ?_)
      exact Mth.Evn.congr (fun k => if_pos rfl) (Mth.Evn.now _)
    · rw [if_neg hl]
      exact Mth.Evn.congr (fun k => if_pos (by omega)) (Mth.Evn.now _)
  exact hE.get
end Go.Proofs.YtdmgmoedpgbnkaaDoor.PureFnExactPuzzleText
