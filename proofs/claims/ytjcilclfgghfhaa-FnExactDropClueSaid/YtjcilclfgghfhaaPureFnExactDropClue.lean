/- The pure statement of FnExactDropClue: both sides give the puzzle without one clue, under the same conditions; what is given is the call's own. No condition. -/
import Derived.Test.YtjcilclfgghfhaaQFnExactDropCluex6
import Derived.Test.YtjcilclfgghfhaaMath
import Derived.OpenShut
namespace Go.Proofs.Ytjcilclfgghfhaa.PureFnExactDropClue
open Go Go.RowKit Go.Proofs.Ytjcilclfgghfhaa.QFnExactDropClue Go.Proofs.YtjcilclfgghfhaaW.PrintWords Go.Proofs.YtjcilclfgghfhaaW.PrintLast Go.Proofs.YtjcilclfgghfhaaW.PrintMore
set_option linter.unusedVariables false
set_option linter.unusedSimpArgs false

theorem wrap_id {x : Int} (h : -9223372036854775808 ≤ x) (h' : x ≤ 9223372036854775807) : wrap64 x = x := by unfold wrap64; omega
theorem ite_dec (p q : Prop) [Decidable p] [Decidable q] : (if decide p = true then some (decide q) else some false) = some (decide (p ∧ q)) := by
  by_cases h : p <;> simp [h]
theorem some_dec {p q : Prop} [Decidable p] [Decidable q] (h : p ↔ q) : some (decide p) = some (decide q) := by rw [decide_eq_decide.2 h]
theorem l1In_eq (a b c : Int) : spec_l1In.f a b c = some (decide (b ≤ a ∧ a ≤ c)) := by
  unfold spec_l1In.f
  by_cases h : a ≥ b
  · rw [if_pos h]; simp [show b ≤ a from h]
  · rw [if_neg h]; simp; omega
theorem within_eq (a b c : Int) : impl_within.f a b c = some (decide (b ≤ a ∧ a ≤ c)) := by
  unfold impl_within.f
  by_cases h : a ≥ b
  · rw [if_pos h]; simp [show b ≤ a from h]
  · rw [if_neg h]; simp; omega

abbrev clueOk (kd a b : Int) : Prop := (0 ≤ a ∧ a ≤ 100) ∧ (0 ≤ b ∧ b ≤ 100) ∧ ((kd = 0 ∧ a = 0 ∧ b ≤ 1) ∨ ((kd = 1 ∨ kd = 2 ∨ kd = 5) ∧ a = 0) ∨ ((kd = 3 ∨ kd = 4) ∧ 1 ≤ b))
theorem pzClue_eq (k : Nat) (kd a b : Int) : spec_pzClue.f (k + 2) kd a b = some (decide (clueOk kd a b)) := by
  unfold clueOk
  simp only [spec_pzClue.f, spec_pzClue.j0, spec_pzClue.j1, l1In_eq, Option.bind_some]
  by_cases h2 : 0 ≤ a ∧ a ≤ 100
  · by_cases h3 : 0 ≤ b ∧ b ≤ 100
    · simp only [h2, h3, decide_true, if_true, Bool.not_true, Bool.false_eq_true, if_false, Option.bind_some, true_and, and_self]
      by_cases k0 : kd = 0
      · subst k0; by_cases h4 : a = 0
        · subst h4; simp; omega
        · simp [h4]
      · by_cases k1 : kd = 1
        · subst k1; simp
          by_cases h4 : a = 0 <;> simp [h4]
        · by_cases k2 : kd = 2
          · subst k2; simp
            by_cases h4 : a = 0 <;> simp [h4]
          · by_cases k5 : kd = 5
            · subst k5; simp
              by_cases h4 : a = 0 <;> simp [h4]
            · have k5' : (kd == 5) = false := by simpa using k5
              by_cases k3 : kd = 3
              · subst k3; simp; omega
              · by_cases k4 : kd = 4
                · subst k4; simp; omega
                · simp [k0, k1, k2, k3, k4, k5]
    · simp [h2, h3]
  · simp only [h2, decide_false, Bool.false_eq_true, if_false, false_and, if_true]
theorem IsClue_eq (k : Nat) (of kd a b : Int) : impl_IsClue.f (k + 1) of kd a b = some (decide ((1 ≤ of ∧ of ≤ 8) ∧ clueOk kd a b)) := by
  unfold clueOk
  unfold impl_IsClue.f impl_isTwo.f
  by_cases k3 : kd = 3
  · rw [if_pos k3]; simp only [Option.bind_some, if_true, impl_IsClue.j0, within_eq, ite_dec]
    exact some_dec (by omega)
  · rw [if_neg k3]
    by_cases k4 : kd = 4
    · have e : (kd == 4) = true := by simpa using k4
      simp only [e, Option.bind_some, if_true, impl_IsClue.j0, within_eq, ite_dec]
      exact some_dec (by omega)
    · have e : (kd == 4) = false := by simpa using k4
      rw [e]; simp only [Option.bind_some, Bool.false_eq_true, if_false]
      by_cases k0 : kd = 0
      · rw [if_pos k0]; simp only [impl_IsClue.j0, within_eq, Option.bind_some, ite_dec]
        exact some_dec (by omega)
      · rw [if_neg k0]; simp only [impl_IsClue.j0, within_eq, Option.bind_some, ite_dec]
        exact some_dec (by omega)
abbrev cvClue (x : S34) : S39 := ⟨x.f0, x.f1, x.f2⟩
theorem szPuzzle_eq (o : Int) (l : List S34) (hl : l.length ≤ 9223372036854775807) : laws_szPuzzle.f o l 1048576 = some (if l.length ≤ 1048576 then 1048576 - (l.length : Int) else -1) := by
  unfold laws_szPuzzle.f laws_szClueS.f
  have e : wrap64 (1048576 - (l.length : Int)) = 1048576 - (l.length : Int) := wrap_id (by omega) (by omega)
  rw [e]
  by_cases h : l.length ≤ 1048576
  · rw [if_neg (by omega)]; simp only [Option.bind_some]; rw [if_neg (by omega), if_pos h]
  · rw [if_pos (by omega)]; simp only [Option.bind_some]; rw [if_pos (by omega), if_neg h]
theorem rdl_get (xs : List S34) (i : Int) (h : i.toNat < xs.length) : rd_T34 xs i = xs[i.toNat] := by unfold rd_T34; rw [List.getD_eq_getElem?_getD, List.getElem?_eq_getElem h]; rfl
theorem toClueS_l0 (l : List S34) (hl : l.length ≤ 1048576) : ∀ (d : Nat) (i : Int) (out : List S39), 0 ≤ i → i + d = l.length → out.length = l.length → (∀ j : Nat, (j : Int) < i → out[j]? = (l.map cvClue)[j]?) →
    Mth.Evn (fun k => laws_toClueS.l0 k l out i) (l.map cvClue)
  | 0, i, out, h0, hi, ho, hs => by
    refine (Mth.Evn.now _).step fun k => ?_
    simp only [laws_toClueS.l0]; rw [if_neg (by omega)]
    congr 1
    apply List.ext_getElem?
    intro j
    by_cases hj : (j : Int) < i
    · exact hs j hj
    · rw [List.getElem?_eq_none (by omega), List.getElem?_eq_none (by simp; omega)]
  | d + 1, i, out, h0, hi, ho, hs => by
    refine (toClueS_l0 l hl d (i + 1) (out.set i.toNat (cvClue (rd_T34 l i))) (by omega) (by omega) (by simpa using ho) (fun j hj => ?_)).step fun k => ?_
    · by_cases e : j = i.toNat
      · subst e
        rw [List.getElem?_set_self (by omega), rdl_get l i (by omega), List.getElem?_map, List.getElem?_eq_getElem (by omega)]; rfl
      · rw [List.getElem?_set_ne (by omega)]; exact hs j (by omega)
    · simp only [laws_toClueS.l0]
      rw [if_pos (by omega), if_pos h0]
      simp only [laws_toClue.f, Option.bind_some]
      rw [if_pos (by omega), wrap_id (x := i + 1) (by omega) (by omega)]
theorem toClueS_ev (l : List S34) (hl : l.length ≤ 1048576) : Mth.Evn (fun k => laws_toClueS.f k l) (l.map cvClue) := by
  unfold laws_toClueS.f
  have e1 : (0 : Int) ≤ (l.length : Int) := by omega
  have e2 : ((l.length : Int) : Int).toNat ≤ 11728124029610 := by omega
  simp only [if_pos e1, if_pos e2]
  exact toClueS_l0 l hl l.length 0 (List.replicate ((l.length : Int) : Int).toNat _) (by omega) (by omega) (by simp) (fun j hj => by omega)
theorem toPuzzle_ev (o : Int) (l : List S34) (hl : l.length ≤ 1048576) : Mth.Evn (fun k => laws_toPuzzle.f k o l) (o, l.map cvClue) := by
  unfold laws_toPuzzle.f
  exact (toClueS_ev l hl).bind (Mth.Evn.now _)
theorem rdg_get (xs : List S39) (i : Int) (h : i.toNat < xs.length) : rd_T39 xs i = xs[i.toNat] := by unfold rd_T39; rw [List.getD_eq_getElem?_getD, List.getElem?_eq_getElem h]; rfl
theorem eqClueS_evn (xs : List S39) (hl : xs.length ≤ 1048576) : Mth.Evn (fun k => laws_eqClueS.f k xs xs) true := by
  have go : ∀ (d : Nat) (i : Int), 0 ≤ i → i + d = xs.length → Mth.Evn (fun k => laws_eqClueS.l0 k xs xs i) true := by
    intro d
    induction d with
    | zero =>
      intro i h0 hi
      refine (Mth.Evn.now _).step fun k => ?_
      simp only [laws_eqClueS.l0]; rw [if_neg (by omega)]
    | succ d ih =>
      intro i h0 hi
      refine (ih (i + 1) (by omega) (by omega)).step fun k => ?_
      simp only [laws_eqClueS.l0]
      rw [if_pos (by omega), if_pos h0, if_pos (by omega)]
      unfold laws_eqClue.f
      rw [if_pos rfl, if_pos rfl, if_pos rfl]
      simp only [Option.bind_some, if_true]
      rw [wrap_id (x := i + 1) (by omega) (by omega)]
  unfold laws_eqClueS.f
  refine Mth.Evn.congr (fun k => if_pos rfl) ?_
  exact go xs.length 0 (by omega) (by omega)
theorem eqPuzzle_evn (o : Int) (xs : List S39) (hl : xs.length ≤ 1048576) : Mth.Evn (fun k => laws_eqPuzzle.f k o xs o xs) true := by
  unfold laws_eqPuzzle.f
  refine Mth.Evn.congr (fun k => if_pos rfl) ?_
  exact (eqClueS_evn xs hl).bind (Mth.Evn.now _)
/-- What makes a puzzle. -/
def goodP (o : Int) (l : List S39) : Bool := decide (1 ≤ o ∧ o ≤ 8) && (decide (l.length ≤ 6) && l.all fun x => decide (clueOk x.f0 x.f1 x.f2))
theorem anyO_some (f : S39 → Option Bool) (p : S39 → Bool) : ∀ l : List S39, (∀ x, x ∈ l → f x = some (p x)) → anyO f l = some (l.any p)
  | [], _ => rfl
  | x :: xs, h => by
    simp only [anyO, h x (by simp), Option.bind_some, List.any_cons]
    cases e : p x with
    | true => simp
    | false => simpa using anyO_some f p xs (fun y hy => h y (by simp [hy]))
theorem IsPuzzle_evn (o : Int) (l : List S39) : Mth.Evn (fun k => impl_IsPuzzle.f k o l) (goodP o l) := by
  refine ⟨1, fun k hk => ?_⟩
  obtain ⟨k, rfl⟩ : ∃ j, k = j + 1 := ⟨k - 1, by omega⟩
  show impl_IsPuzzle.f (k + 1) o l = _
  unfold impl_IsPuzzle.f impl_Clue_57.f
  rw [within_eq]; simp only [Option.bind_some]
  unfold goodP
  by_cases ho : 1 ≤ o ∧ o ≤ 8
  · rw [decide_eq_true ho, if_pos rfl]
    by_cases hl : l.length ≤ 6
    · rw [if_pos (by omega), if_pos (by omega), anyO_some _ (fun x => !decide (clueOk x.f0 x.f1 x.f2)) l (fun x _ => ?_)]
      · simp only [Option.bind_some, decide_eq_true hl, Bool.true_and, List.not_any_eq_all_not, Bool.not_not]
      · rw [IsClue_eq]; simp [ho]
    · rw [if_neg (by omega), decide_eq_false hl]; simp
  · rw [decide_eq_false ho, if_neg (by simp)]; simp
theorem pzGood_l0 (l : List S39) (hl : l.length ≤ 6) : ∀ (d : Nat) (i : Int), 0 ≤ i → i + d = l.length →
    Mth.Evn (fun k => spec_pzGood.l0 k l (l.length : Int) i) ((l.drop i.toNat).all fun x => decide (clueOk x.f0 x.f1 x.f2))
  | 0, i, h0, hi => by
    rw [List.drop_eq_nil_of_le (by omega)]
    refine (Mth.Evn.now _).step fun k => ?_
    simp only [spec_pzGood.l0]; rw [if_neg (by omega)]; rfl
  | d + 1, i, h0, hi => by
    have hlt : i.toNat < l.length := by omega
    rw [List.drop_eq_getElem_cons hlt]
    have ih := pzGood_l0 l hl d (i + 1) (by omega) (by omega)
    rw [show (i + 1).toNat = i.toNat + 1 by omega] at ih
    have hq : Mth.Evn (fun k => spec_pzClue.f k ((rd_T39 l i).f0) ((rd_T39 l i).f1) ((rd_T39 l i).f2)) (decide (clueOk (l[i.toNat]).f0 (l[i.toNat]).f1 (l[i.toNat]).f2)) := by
      refine ⟨2, fun k hk => ?_⟩
      obtain ⟨k, rfl⟩ : ∃ j, k = j + 2 := ⟨k - 2, by omega⟩
      show spec_pzClue.f (k + 2) _ _ _ = _
      rw [pzClue_eq, rdg_get l i hlt]
    refine Mth.Evn.step (g := fun k => (spec_pzClue.f k ((rd_T39 l i).f0) ((rd_T39 l i).f1) ((rd_T39 l i).f2)).bind fun t => if t = true then spec_pzGood.l0 k l (l.length : Int) (i + 1) else some false) (fun k => ?_) (hq.bind ?_)
    · simp only [spec_pzGood.l0]
      rw [if_pos (by omega), if_pos h0, if_pos (by omega), wrap_id (x := i + 1) (by omega) (by omega)]
    · by_cases h : clueOk (l[i.toNat]).f0 (l[i.toNat]).f1 (l[i.toNat]).f2
      · simp only [List.all_cons, decide_eq_true h, if_true, Bool.true_and]; exact ih
      · simp only [List.all_cons, decide_eq_false h, Bool.false_and]
        exact Mth.Evn.congr (fun k => if_neg (by simp)) (Mth.Evn.now _)
theorem pzGood_evn (o : Int) (l : List S39) : Mth.Evn (fun k => spec_pzGood.f k o l) (goodP o l) := by
  have ep : spec_pzOf.f o = some (decide (1 ≤ o ∧ o ≤ 8)) := by unfold spec_pzOf.f; rw [l1In_eq]; rfl
  unfold spec_pzGood.f goodP
  rw [ep]; simp only [Option.bind_some]
  by_cases ho : 1 ≤ o ∧ o ≤ 8
  · rw [decide_eq_true ho]
    refine Mth.Evn.congr (fun k => if_pos rfl) ?_
    by_cases hl : l.length ≤ 6
    · refine Mth.Evn.step (g := fun k => spec_pzGood.l0 k l (l.length : Int) 0) (fun k => ?_) ?_
      · simp only [spec_pzGood.j0]; rw [decide_eq_false (by omega), if_neg (by simp)]
      · simpa [hl] using pzGood_l0 l hl l.length 0 (by omega) (by omega)
    · refine Mth.Evn.step (g := fun k => some false) (fun k => ?_) ?_
      · simp only [spec_pzGood.j0]; rw [decide_eq_true (by omega), if_pos rfl]
      · simpa [hl] using Mth.Evn.now false
  · rw [decide_eq_false ho]
    refine Mth.Evn.congr (fun k => if_neg (by simp)) ?_
    refine Mth.Evn.step (g := fun k => some false) (fun k => ?_) (by simpa using Mth.Evn.now false)
    simp only [spec_pzGood.j0]; rw [if_pos trivial]
theorem rdc_get (xs : List S39) (i : Int) (h : i.toNat < xs.length) : rd_T39 xs i = xs[i.toNat] := by unfold rd_T39; rw [List.getD_eq_getElem?_getD, List.getElem?_eq_getElem h]; rfl
theorem rdc_set (xs : List S39) (i : Int) (v : S39) (h : i.toNat < xs.length) : rd_T39 (xs.set i.toNat v) i = v := by
  rw [rdc_get _ _ (by simpa using h)]; simp
theorem rdc_set_ne (xs : List S39) (i j : Int) (v : S39) (h : i.toNat ≠ j.toNat) : rd_T39 (xs.set i.toNat v) j = rd_T39 xs j := by
  unfold rd_T39; rw [List.getD_eq_getElem?_getD, List.getD_eq_getElem?_getD, List.getElem?_set_ne h]
theorem eqClueS_ev (xs : List S39) (hl : xs.length ≤ 1048576) : Mth.Evn (fun k => laws_eqClueS.f k xs xs) true := by
  have go : ∀ (d : Nat) (i : Int), 0 ≤ i → i + d = xs.length → Mth.Evn (fun k => laws_eqClueS.l0 k xs xs i) true := by
    intro d
    induction d with
    | zero =>
      intro i h0 hi
      refine (Mth.Evn.now _).step fun k => ?_
      simp only [laws_eqClueS.l0]; rw [if_neg (by omega)]
    | succ d ih =>
      intro i h0 hi
      refine (ih (i + 1) (by omega) (by omega)).step fun k => ?_
      simp only [laws_eqClueS.l0]
      rw [if_pos (by omega), if_pos h0, if_pos (by omega)]
      unfold laws_eqClue.f
      rw [if_pos rfl, if_pos rfl, if_pos rfl]
      simp only [Option.bind_some, if_true]
      rw [wrap_id (x := i + 1) (by omega) (by omega)]
  unfold laws_eqClueS.f
  refine Mth.Evn.congr (fun k => if_pos rfl) ?_
  exact go xs.length 0 (by omega) (by omega)
theorem markClueS_l0 : ∀ (d : Nat) (xs : List S39) (m i : Int), xs.length ≤ 1048576 → 0 ≤ i → i + d = xs.length → 0 ≤ m → m + 3 * d ≤ 4000000 →
    ∃ r : List S39, r.length = xs.length ∧ (∀ j : Int, 0 ≤ j → j < i → rd_T39 r j = rd_T39 xs j) ∧ (∀ j : Int, i ≤ j → j < xs.length → rd_T39 r j = ⟨m + 3 * (j - i), m + 3 * (j - i) + 1, m + 3 * (j - i) + 2⟩) ∧
      Mth.Evn (fun k => laws_markClueS.l0 k xs m i) (m + 3 * d, r)
  | 0, xs, m, i, hx, h0, hi, hm, hb => by
    refine ⟨xs, rfl, fun j _ _ => rfl, fun j h1 h2 => by omega, ?_⟩
    refine (Mth.Evn.now _).step fun k => ?_
    simp only [laws_markClueS.l0]; rw [if_neg (by omega)]
    simp
  | d + 1, xs, m, i, hx, h0, hi, hm, hb => by
    have hlt : i.toNat < xs.length := by omega
    obtain ⟨r, hr, hlo, hhi, hev⟩ := markClueS_l0 d (xs.set i.toNat ⟨m, m + 1, m + 2⟩) (m + 3) (i + 1) (by simpa using hx) (by omega) (by simp; omega) (by omega) (by omega)
    refine ⟨r, by simpa using hr, fun j h1 h2 => ?_, fun j h1 h2 => ?_, ?_⟩
    · rw [hlo j h1 (by omega), rdc_set_ne _ _ _ _ (by omega)]
    · by_cases e : j = i
      · subst e
        rw [hlo j h0 (by omega), rdc_set _ _ _ hlt]
        simp
      · rw [hhi j (by omega) (by simpa using h2), show m + 3 + 3 * (j - (i + 1)) = m + 3 * (j - i) by omega]
    · rw [show m + 3 * ((d + 1 : Nat) : Int) = m + 3 + 3 * (d : Int) by omega]
      refine hev.step fun k => ?_
      simp only [laws_markClueS.l0]
      rw [if_pos (by omega), if_pos h0]
      simp only [Option.bind_some]
      rw [rdc_set _ _ _ hlt, rdc_set _ _ _ (by simpa using hlt), List.set_set, List.set_set, wrap_id (x := m + 1) (by omega) (by omega), wrap_id (x := m + 1 + 1) (by omega) (by omega), wrap_id (x := m + 1 + 1 + 1) (by omega) (by omega), wrap_id (x := i + 1) (by omega) (by omega), show m + 1 + 1 = m + 2 by omega, show m + 2 + 1 = m + 3 by omega]
theorem heldClueS_l0 (r : List S39) (m0 : Int) (hgood : ∀ j : Int, 0 ≤ j → j < r.length → rd_T39 r j = ⟨m0 + 3 * j, m0 + 3 * j + 1, m0 + 3 * j + 2⟩) (hm : 0 ≤ m0) (hb : m0 + 3 * r.length ≤ 4000000) : ∀ (d : Nat) (i : Int), 0 ≤ i → i + d = r.length →
    Mth.Evn (fun k => laws_heldClueS.l0 k r (m0 + 3 * i) i) (m0 + 3 * r.length)
  | 0, i, h0, hi => by
    refine (Mth.Evn.now _).step fun k => ?_
    simp only [laws_heldClueS.l0]; rw [if_neg (by omega)]
    congr 1; omega
  | d + 1, i, h0, hi => by
    have ih := heldClueS_l0 r m0 hgood hm hb d (i + 1) (by omega) (by omega)
    refine ih.step fun k => ?_
    simp only [laws_heldClueS.l0]
    rw [if_pos (by omega), if_pos h0, hgood i h0 (by omega)]
    rw [wrap_id (x := m0 + 3 * i + 1) (by omega) (by omega), wrap_id (x := m0 + 3 * i + 1 + 1) (by omega) (by omega), wrap_id (x := m0 + 3 * i + 1 + 1 + 1) (by omega) (by omega), wrap_id (x := i + 1) (by omega) (by omega)]
    simp only
    rw [if_pos trivial, if_pos trivial, if_pos (by omega), show m0 + 3 * i + 1 + 1 + 1 = m0 + 3 * (i + 1) by omega]
/-- What is marked is held. -/
theorem mark_held_clue (xs : List S39) (hl : xs.length ≤ 1048576) :
    ∃ r : List S39, Mth.Evn (fun k => laws_markClueS.f k xs 1) (1 + 3 * xs.length, r) ∧ Mth.Evn (fun k => laws_heldClueS.f k r 1) (1 + 3 * xs.length) := by
  obtain ⟨r, hr, _, hhi, hev⟩ := markClueS_l0 xs.length xs 1 0 hl (by omega) (by omega) (by omega) (by omega)
  refine ⟨r, hev, ?_⟩
  have := heldClueS_l0 r 1 (fun j h1 h2 => by rw [hhi j h1 (by omega)]; simp) (by omega) (by omega) r.length 0 (by omega) (by omega)
  rw [hr] at this
  exact this
theorem eqPuzzle_ev (o : Int) (xs : List S39) (hl : xs.length ≤ 1048576) : Mth.Evn (fun k => laws_eqPuzzle.f k o xs o xs) true := by
  unfold laws_eqPuzzle.f
  refine Mth.Evn.congr (fun k => if_pos rfl) ?_
  exact (eqClueS_ev xs hl).bind (Mth.Evn.now _)
theorem mark_held_puzzle (o : Int) (xs : List S39) (hl : xs.length ≤ 1048576) :
    ∃ (m : Int) (r : List S39), 0 ≤ m ∧ Mth.Evn (fun k => laws_markPuzzle.f k o xs 1) (m, r) ∧ Mth.Evn (fun k => laws_heldPuzzle.f k o r 1) m := by
  obtain ⟨r, h1, h2⟩ := mark_held_clue xs hl
  refine ⟨1 + 3 * xs.length, r, by omega, ?_, ?_⟩
  · unfold laws_markPuzzle.f
    exact h1.bind (Mth.Evn.now _)
  · unfold laws_heldPuzzle.f
    refine h2.bind ?_
    refine Mth.Evn.congr (fun k => ?_) (Mth.Evn.now _)
    rw [if_neg (by omega)]
/-- A puzzle's clues without one. -/
def wout (l : List S39) (k : Int) : List S39 := l.take k.toNat ++ l.drop (k + 1).toNat
theorem wout_len (l : List S39) (k : Int) : (wout l k).length ≤ l.length + l.length := by
  simp only [wout, List.length_append, List.length_take, List.length_drop]; omega
theorem pzWithout_eq (l : List S39) (k : Int) (hl : l.length ≤ 1000) (h0 : 0 ≤ k) (h1 : k < l.length) : spec_pzWithout.f l k = some (wout l k) := by
  unfold spec_pzWithout.f wout
  simp only [Option.bind_some, List.nil_append]
  rw [wrap_id (x := k + 1) (by omega) (by omega), if_pos h0, if_pos (by omega), if_pos (by simp only [List.length_take, List.length_nil]; omega), if_pos (by omega), if_pos (by omega), if_pos (by simp only [List.length_take, List.length_drop]; omega)]
theorem without_eq (l : List S39) (k : Int) (hl : l.length ≤ 1000) (h0 : 0 ≤ k) (h1 : k < l.length) : impl_without.f l k = some (wout l k) := by
  unfold impl_without.f impl_Clue_86.f wout
  rw [wrap_id (x := k + 1) (by omega) (by omega), if_pos h0, if_pos (by omega), if_pos (by omega), if_pos (by omega), if_pos (by simp only [List.length_take, List.length_drop]; omega)]
  rfl
/-- The puzzle without a clue. -/
def dropEnd (o : Int) (l : List S39) (k : Int) : Int × List S39 × Bool := if goodP o l = true ∧ 0 ≤ k ∧ k < l.length then (o, wout l k, true) else (0, [], false)
theorem specDrop_ev (o : Int) (l : List S39) (a : Int) : Mth.Evn (fun k => spec_DropClue.f k o l a) (dropEnd o l a) := by
  unfold spec_DropClue.f
  refine (pzGood_evn _ _).bind ?_
  cases h : goodP o l with
  | true =>
    have h3 : l.length ≤ 6 := by
      unfold goodP at h; simp only [Bool.and_eq_true, decide_eq_true_eq] at h; exact h.2.1
    have ew : wrap64 ((l.length : Int) - 1) = (l.length : Int) - 1 := wrap_id (by omega) (by omega)
    refine Mth.Evn.congr (fun k => if_pos rfl) ?_
    rw [ew, l1In_eq]; simp only [Option.bind_some]
    by_cases h1 : 0 ≤ a ∧ a ≤ (l.length : Int) - 1
    · have hv : dropEnd o l a = (o, wout l a, true) := by unfold dropEnd; rw [if_pos ⟨h, h1.1, by omega⟩]
      rw [hv, decide_eq_true h1]
      refine Mth.Evn.congr (fun k => if_pos rfl) ?_
      rw [pzWithout_eq l a (by omega) h1.1 (by omega)]; exact Mth.Evn.now _
    · have hv : dropEnd o l a = (0, [], false) := by unfold dropEnd; rw [if_neg (fun q => h1 ⟨q.2.1, by have := q.2.2; omega⟩)]
      rw [hv, decide_eq_false h1]
      exact Mth.Evn.congr (fun k => if_neg (by simp)) (Mth.Evn.now _)
  | false =>
    have hv : dropEnd o l a = (0, [], false) := by unfold dropEnd; rw [if_neg (fun q => by have := q.1; rw [h] at this; cases this)]
    rw [hv]
    exact Mth.Evn.congr (fun k => if_neg (by simp)) (Mth.Evn.now _)
theorem implDrop_ev (o : Int) (l : List S39) (a : Int) : Mth.Evn (fun k => impl_DropClue.f k o l a) (dropEnd o l a) := by
  unfold impl_DropClue.f
  refine (IsPuzzle_evn _ _).bind ?_
  cases h : goodP o l with
  | true =>
    have h3 : l.length ≤ 6 := by
      unfold goodP at h; simp only [Bool.and_eq_true, decide_eq_true_eq] at h; exact h.2.1
    have ew : wrap64 ((l.length : Int) - 1) = (l.length : Int) - 1 := wrap_id (by omega) (by omega)
    refine Mth.Evn.congr (fun k => if_pos rfl) ?_
    rw [ew, within_eq]; simp only [Option.bind_some]
    by_cases h1 : 0 ≤ a ∧ a ≤ (l.length : Int) - 1
    · have hv : dropEnd o l a = (o, wout l a, true) := by unfold dropEnd; rw [if_pos ⟨h, h1.1, by omega⟩]
      rw [hv, decide_eq_true h1]
      refine Mth.Evn.congr (fun k => if_pos rfl) ?_
      rw [without_eq l a (by omega) h1.1 (by omega)]; exact Mth.Evn.now _
    · have hv : dropEnd o l a = (0, [], false) := by unfold dropEnd; rw [if_neg (fun q => h1 ⟨q.2.1, by have := q.2.2; omega⟩)]
      rw [hv, decide_eq_false h1]
      exact Mth.Evn.congr (fun k => if_neg (by simp)) (Mth.Evn.now _)
  | false =>
    have hv : dropEnd o l a = (0, [], false) := by unfold dropEnd; rw [if_neg (fun q => by have := q.1; rw [h] at this; cases this)]
    rw [hv]
    exact Mth.Evn.congr (fun k => if_neg (by simp)) (Mth.Evn.now _)
theorem dropEnd_len (o : Int) (l : List S39) (a : Int) : (dropEnd o l a).2.1.length ≤ 1000 := by
  unfold dropEnd
  split
  · rename_i h
    have h := h.1
    unfold goodP at h; simp only [Bool.and_eq_true, decide_eq_true_eq] at h
    have := h.2.1
    have := wout_len l a
    show (wout l a).length ≤ 1000
    omega
  · simp
theorem holds (a0_0 : Int) (l0_1 : List S34) (a1 : Int) (w0_0 : (Lit.int .i64 a0_0).wf = true) (w0_1 : l0_1.length ≤ 9223372036854775807) (w1 : (Lit.int .i64 a1).wf = true) : ∃ k, laws_FnExactDropClue.f k a0_0 l0_1 a1 = some true := by
  have hE : Mth.Evn (fun k => laws_FnExactDropClue.f k a0_0 l0_1 a1) true := by
    unfold laws_FnExactDropClue.f
    rw [szPuzzle_eq _ _ w0_1]; simp only [Option.bind_some]
    by_cases hl : l0_1.length ≤ 1048576
    · rw [if_pos hl]
      refine Mth.Evn.congr (fun k => if_neg (by omega)) ?_
      have ht := toPuzzle_ev a0_0 l0_1 hl
      have hlm : (l0_1.map cvClue).length ≤ 1048576 := by simpa using hl
      obtain ⟨⟨p, L, b⟩, hL, hs, hi⟩ : ∃ r : Int × List S39 × Bool, r.2.1.length ≤ 1000 ∧ Mth.Evn (fun k => spec_DropClue.f k a0_0 (l0_1.map cvClue) a1) r ∧ Mth.Evn (fun k => impl_DropClue.f k a0_0 (l0_1.map cvClue) a1) r :=
        ⟨_, dropEnd_len _ _ _, specDrop_ev _ _ _, implDrop_ev _ _ _⟩
      have hL' : L.length ≤ 1048576 := Nat.le_trans hL (by omega)
      have he := eqPuzzle_ev p L hL'
      obtain ⟨m1, r1, hm1, hm, _⟩ := mark_held_puzzle a0_0 (l0_1.map cvClue) hlm
      obtain ⟨m2, r2, hm0, hm2, hh2⟩ := mark_held_puzzle p L hL'
      refine ht.bind (hs.bind (ht.bind (hi.bind (he.bind ?_))))
      refine Mth.Evn.congr (fun k => if_pos rfl) ?_
      have e1 : (b != b) = false := by simp
      simp only [e1]
      have j2 : Mth.Evn (fun k => laws_FnExactDropClue.j2 k m2 false p r2) true := by
        refine Mth.Evn.step (g := fun k => (laws_heldPuzzle.f k p r2 1).bind fun t => if t < 0 then some false else if t = m2 then some true else some false) (fun k => ?_) (hh2.bind ?_)
        · simp only [laws_FnExactDropClue.j2]; rw [if_neg (by simp)]
        · exact Mth.Evn.congr (fun k => (if_neg (by omega)).trans (if_pos rfl)) (Mth.Evn.now _)
      have j1 : Mth.Evn (fun k => laws_FnExactDropClue.j1 k a1 b false a0_0 l0_1 p L p L) true := by
        refine Mth.Evn.step (g := fun k => (laws_markPuzzle.f k p L 1).bind fun q => (laws_heldPuzzle.f k p q.2 1).bind fun t => if t < 0 then some false else if t = q.1 then (laws_toPuzzle.f k a0_0 l0_1).bind fun x => (impl_DropClue.f k x.1 x.2 a1).bind fun y => (laws_eqPuzzle.f k y.1 y.2.1 p L).bind fun u => if u = true then laws_FnExactDropClue.j2 k q.1 (y.2.2 != b) p q.2 else laws_FnExactDropClue.j2 k q.1 true p q.2 else some false) (fun k => ?_) (hm2.bind (hh2.bind ?_))
        · simp only [laws_FnExactDropClue.j1]; rw [if_neg (by simp)]
        · refine Mth.Evn.congr (fun k => (if_neg (by omega)).trans (if_pos rfl)) (ht.bind (hi.bind (he.bind ?_)))
          refine Mth.Evn.congr (fun k => if_pos rfl) ?_
          simp only [e1]; exact j2
      refine Mth.Evn.step (g := fun k => (laws_toPuzzle.f k a0_0 l0_1).bind fun x => (laws_eqPuzzle.f k a0_0 (l0_1.map cvClue) x.1 x.2).bind fun t => if t = true then (laws_markPuzzle.f k a0_0 (l0_1.map cvClue) 1).bind fun q => if q.1 < 0 then laws_FnExactDropClue.j1 k a1 b true a0_0 l0_1 p L p L else (laws_eqPuzzle.f k p L p L).bind fun u => if u = true then laws_FnExactDropClue.j1 k a1 b (b != b) a0_0 l0_1 p L p L else laws_FnExactDropClue.j1 k a1 b true a0_0 l0_1 p L p L else some false) (fun k => ?_) (ht.bind ((eqPuzzle_ev _ _ hlm).bind ?_))
      · simp only [laws_FnExactDropClue.j0]; rw [if_neg (by simp)]
      · refine Mth.Evn.congr (fun k => if_pos rfl) (hm.bind ?_)
        refine Mth.Evn.congr (fun k => if_neg (by omega)) (he.bind ?_)
        refine Mth.Evn.congr (fun k => if_pos rfl) ?_
        simp only [e1]; exact j1
    · rw [if_neg hl]
      exact Mth.Evn.congr (fun k => if_pos (by omega)) (Mth.Evn.now _)
  exact hE.get
end Go.Proofs.Ytjcilclfgghfhaa.PureFnExactDropClue
