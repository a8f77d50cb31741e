/- The pure statement of FnExactCountInPlay. No condition. -/
import Derived.Test.YtkcpmdkjhpbmfaaQFnExactCountInPlayx4
import Derived.Test.YtkcpmdkjhpbmfaaMath
import Derived.OpenShut
namespace Go.Proofs.Ytkcpmdkjhpbmfaa.PureFnExactCountInPlay
open Go Go.RowKit Go.Proofs.Ytkcpmdkjhpbmfaa.QFnExactCountInPlay Go.Proofs.YtkcpmdkjhpbmfaaW.PrintWords Go.Proofs.YtkcpmdkjhpbmfaaW.PrintLast Go.Proofs.YtkcpmdkjhpbmfaaW.PrintMore
set_option linter.unusedVariables false
set_option linter.unusedSimpArgs false

theorem wrap_id {x : Int} (h : -9223372036854775808 ≤ x) (h' : x ≤ 9223372036854775807) : wrap64 x = x := by unfold wrap64; omega
theorem ite_dec (p q : Prop) [Decidable p] [Decidable q] : (if decide p = true then some (decide q) else some false) = some (decide (p ∧ q)) := by
  by_cases h : p <;> simp [h]
theorem some_dec {p q : Prop} [Decidable p] [Decidable q] (h : p ↔ q) : some (decide p) = some (decide q) := by rw [decide_eq_decide.2 h]
theorem l1In_eq (a b c : Int) : spec_l1In.f a b c = some (decide (b ≤ a ∧ a ≤ c)) := by
  unfold spec_l1In.f
  by_cases h : a ≥ b
  · rw [if_pos h]; simp [show b ≤ a from h]
  · rw [if_neg h]; simp; omega
theorem within_eq (a b c : Int) : impl_within.f a b c = some (decide (b ≤ a ∧ a ≤ c)) := by
  unfold impl_within.f
  by_cases h : a ≥ b
  · rw [if_pos h]; simp [show b ≤ a from h]
  · rw [if_neg h]; simp; omega
theorem skGood_eq (p g : Int) : spec_skGood.f p g = some (decide ((1 ≤ g ∧ g ≤ 16) ∧ (0 ≤ p ∧ p ≤ g))) := by
  unfold spec_skGood.f; simp only [l1In_eq, Option.bind_some]
  by_cases h1 : 1 ≤ g ∧ g ≤ 16 <;> simp [h1]
theorem AreStakes_eq (p g : Int) : impl_AreStakes.f p g = some (decide ((1 ≤ g ∧ g ≤ 16) ∧ (0 ≤ p ∧ p ≤ g))) := by
  unfold impl_AreStakes.f; simp only [within_eq, Option.bind_some]
  by_cases h1 : 1 ≤ g ∧ g ≤ 16 <;> simp [h1]

def inn (now : List Int) : Nat → List Int → Int → List Int
  | 0, nxt, _ => nxt
  | d + 1, nxt, i =>
    inn now d ((nxt.set (i - 1).toNat (wrap64 (rd nxt (i - 1) + rd now i))).set (i + 1).toNat (wrap64 (rd (nxt.set (i - 1).toNat (wrap64 (rd nxt (i - 1) + rd now i))) (i + 1) + rd now i))) (i + 1)
theorem inn_len (now : List Int) : ∀ (d : Nat) (nxt : List Int) (i : Int), (inn now d nxt i).length = nxt.length
  | 0, _, _ => rfl
  | d + 1, nxt, i => by rw [inn, inn_len now d]; simp
def iter (g : Int) : Nat → List Int → List Int
  | 0, now => now
  | n + 1, now => iter g n (inn now (g - 1).toNat (List.replicate (g + 1).toNat 0) 1)
theorem iter_len (g : Int) : ∀ (n : Nat) (now : List Int), now.length = (g + 1).toNat → (iter g n now).length = (g + 1).toNat
  | 0, _, h => h
  | n + 1, now, h => by rw [iter]; exact iter_len g n _ (by rw [inn_len]; simp)
theorem spec_l1 (now : List Int) (x1 p g : Int) (r : Int × Int × Int) (hg : g ≤ 16) (hn : now.length = (g + 1).toNat) : ∀ (d : Nat) (nxt : List Int) (i : Int), 1 ≤ i → i + d = g → nxt.length = (g + 1).toNat →
    Mth.Evn (fun k => spec_skCount.l0 k (wrap64 (x1 - 1)) (inn now d nxt i) p g) r → Mth.Evn (fun k => spec_skCount.l1 k x1 now nxt i p g) r
  | 0, nxt, i, h1, hi, hl, H => by
    refine H.step fun k => ?_
    simp only [spec_skCount.l1]
    rw [if_neg (by omega)]; rfl
  | d + 1, nxt, i, h1, hi, hl, H => by
    refine (spec_l1 now x1 p g r hg hn d _ (i + 1) (by omega) (by omega) (by simp [hl]) H).step fun k => ?_
    simp only [spec_skCount.l1]
    rw [wrap_id (x := i - 1) (by omega) (by omega), wrap_id (x := i + 1) (by omega) (by omega)]
    rw [if_pos (by omega), if_pos (by omega), if_pos (by omega), if_pos (by omega), if_pos (by omega)]
    simp only [Option.bind_some]
    rw [if_pos (by omega), if_pos (by omega)]
theorem spec_l0 (p g : Int) (r : Int × Int × Int) (hg1 : 1 ≤ g) (hg : g ≤ 16) : ∀ (n : Nat) (now : List Int), n ≤ 30 → now.length = (g + 1).toNat →
    Mth.Evn (fun k => spec_skCount.l2 k (iter g n now) 0 1 p g) r → Mth.Evn (fun k => spec_skCount.l0 k n now p g) r
  | 0, now, hn, hl, H => by
    refine H.step fun k => ?_
    simp only [spec_skCount.l0]
    rw [if_neg (by omega)]; rfl
  | n + 1, now, hn, hl, H => by
    have e : wrap64 (((n + 1 : Nat) : Int) - 1) = (n : Int) := by rw [wrap_id (by omega) (by omega)]; omega
    have h1 := spec_l1 now ((n + 1 : Nat) : Int) p g r hg hl (g - 1).toNat (List.replicate (g + 1).toNat 0) 1 (by omega) (by omega) (by simp) (by
      rw [e]; exact spec_l0 p g r hg1 hg n _ (by omega) (by rw [inn_len]; simp) H)
    refine h1.step fun k => ?_
    simp only [spec_skCount.l0]
    rw [if_pos (by omega), wrap_id (x := g + 1) (by omega) (by omega), if_pos (by omega), if_pos (by omega)]
theorem impl_l1 (now : List Int) (x25 x26 p g : Int) (r : List Int × Bool) (hg : g ≤ 16) (hn : now.length = (g + 1).toNat) : ∀ (d : Nat) (nxt : List Int) (i : Int), 1 ≤ i → i + d = g → nxt.length = (g + 1).toNat →
    Mth.Evn (fun k => impl_ends.l0 k (inn now d nxt i) x25 (wrap64 (x26 + 1)) p g) r → Mth.Evn (fun k => impl_ends.l1 k now nxt i x25 x26 p g) r
  | 0, nxt, i, h1, hi, hl, H => by
    refine H.step fun k => ?_
    simp only [impl_ends.l1]
    rw [if_neg (by omega)]; rfl
  | d + 1, nxt, i, h1, hi, hl, H => by
    refine (impl_l1 now x25 x26 p g r hg hn d _ (i + 1) (by omega) (by omega) (by simp [hl]) H).step fun k => ?_
    simp only [impl_ends.l1]
    rw [wrap_id (x := i - 1) (by omega) (by omega), wrap_id (x := i + 1) (by omega) (by omega)]
    rw [if_pos (by omega), if_pos (by omega), if_pos (by omega), if_pos (by omega), if_pos (by omega)]
    simp only [Option.bind_some]
    rw [if_pos (by omega), if_pos (by omega)]
theorem impl_l0 (p g x25 : Int) (hx : x25 ≤ 30) (hg1 : 1 ≤ g) (hg : g ≤ 16) : ∀ (n : Nat) (now : List Int) (j : Int), 0 ≤ j → j + n = x25 → now.length = (g + 1).toNat →
    Mth.Evn (fun k => impl_ends.l0 k now x25 j p g) (iter g n now, true)
  | 0, now, j, h0, hn, hl => by
    refine (Mth.Evn.now _).step fun k => ?_
    simp only [impl_ends.l0]
    rw [if_neg (by omega)]; rfl
  | n + 1, now, j, h0, hn, hl => by
    have e : wrap64 (j + 1) = j + 1 := wrap_id (by omega) (by omega)
    have h1 := impl_l1 now x25 j p g (iter g (n + 1) now, true) hg hl (g - 1).toNat (List.replicate (g + 1).toNat 0) 1 (by omega) (by omega) (by simp) (by
      rw [e]; exact impl_l0 p g x25 hx hg1 hg n _ (j + 1) (by omega) (by omega) (by rw [inn_len]; simp))
    refine h1.step fun k => ?_
    simp only [impl_ends.l0]
    rw [if_pos (by omega), wrap_id (x := g + 1) (by omega) (by omega), if_pos (by omega), if_pos (by omega)]
def fin (p g n : Int) : List Int := iter g n.toNat ((List.replicate (g + 1).toNat 0).set p.toNat 1)
theorem fin_len (p g n : Int) : (fin p g n).length = (g + 1).toNat := iter_len g _ _ (by simp)
/-- What is in play: the sum of all between. -/
def open_ (xs : List Int) (g : Int) : Nat → Int → Int → Int
  | 0, s, _ => s
  | d + 1, s, i => open_ xs g d (wrap64 (s + rd xs i)) (i + 1)
theorem spec_l2 (xs : List Int) (p g : Int) (hg0 : 1 ≤ g) (hg : g ≤ 16) (hl : xs.length = (g + 1).toNat) : ∀ (d : Nat) (s i : Int), 1 ≤ i → i + d = g → Mth.Evn (fun k => spec_skCount.l2 k xs s i p g) (rd xs 0, rd xs g, open_ xs g d s i)
  | 0, s, i, h1, hi => by
    refine (Mth.Evn.now _).step fun k => ?_
    simp only [spec_skCount.l2]
    rw [if_neg (by omega), if_pos (by omega), if_pos (by omega), if_pos (by omega)]; rfl
  | d + 1, s, i, h1, hi => by
    refine (spec_l2 xs p g hg0 hg hl d (wrap64 (s + rd xs i)) (i + 1) (by omega) (by omega)).step fun k => ?_
    simp only [spec_skCount.l2]
    rw [if_pos (by omega), if_pos (by omega), if_pos (by omega), wrap_id (x := i + 1) (by omega) (by omega)]
theorem skCount_ev (p g n : Int) (hg0 : 1 ≤ g) (hg : g ≤ 16) (hp : 0 ≤ p) (hpg : p ≤ g) (hn : 0 ≤ n) (hn' : n ≤ 30) :
    Mth.Evn (fun k => spec_skCount.f k p g n) (rd (fin p g n) 0, rd (fin p g n) g, open_ (fin p g n) g (g - 1).toNat 0 1) := by
  have h2 := spec_l2 (fin p g n) p g hg0 hg (fin_len p g n) (g - 1).toNat 0 1 (by omega) (by omega)
  have h0 := spec_l0 p g _ hg0 hg n.toNat ((List.replicate (g + 1).toNat 0).set p.toNat 1) (by omega) (by simp) h2
  rw [show ((n.toNat : Nat) : Int) = n by omega] at h0
  refine h0.congr fun k => ?_
  unfold spec_skCount.f
  rw [wrap_id (x := g + 1) (by omega) (by omega), if_pos (by omega), if_pos (by omega)]
  simp only [Option.bind_some, List.length_replicate]
  rw [if_pos hp, if_pos (by omega)]
theorem ends_ev (p g n : Int) (hg0 : 1 ≤ g) (hg : g ≤ 16) (hp : 0 ≤ p) (hpg : p ≤ g) (hn : 0 ≤ n) (hn' : n ≤ 30) : Mth.Evn (fun k => impl_ends.f k p g n) (fin p g n, true) := by
  have h0 := impl_l0 p g n hn' hg0 hg n.toNat ((List.replicate (g + 1).toNat 0).set p.toNat 1) 0 (by omega) (by omega) (by simp)
  refine Mth.Evn.congr (g := fun k => impl_ends.j0 k n false p g) (fun k => ?_) (h0.step fun k => ?_)
  · unfold impl_ends.f
    rw [AreStakes_eq, within_eq]
    simp [show (1 ≤ g ∧ g ≤ 16) ∧ 0 ≤ p ∧ p ≤ g from ⟨⟨hg0, hg⟩, hp, hpg⟩, show 0 ≤ n ∧ n ≤ 30 from ⟨hn, hn'⟩]
  · simp only [impl_ends.j0]
    rw [if_neg (by simp), wrap_id (x := g + 1) (by omega) (by omega), if_pos (by omega), if_pos (by omega)]
    simp only [Option.bind_some, List.length_replicate]
    rw [if_pos hp, if_pos (by omega)]
theorem ends_no (p g n : Int) (h : ¬ (((1 ≤ g ∧ g ≤ 16) ∧ 0 ≤ p ∧ p ≤ g) ∧ 0 ≤ n ∧ n ≤ 30)) : Mth.Evn (fun k => impl_ends.f k p g n) ([], false) := by
  refine Mth.Evn.congr (g := fun k => impl_ends.j0 k n true p g) (fun k => ?_) ((Mth.Evn.now _).step fun k => ?_)
  · unfold impl_ends.f
    rw [AreStakes_eq, within_eq]
    by_cases h1 : (1 ≤ g ∧ g ≤ 16) ∧ 0 ≤ p ∧ p ≤ g
    · have h2 : ¬ (0 ≤ n ∧ n ≤ 30) := fun h2 => h ⟨h1, h2⟩
      rw [decide_eq_true h1, decide_eq_false h2]; rfl
    · rw [decide_eq_false h1]; rfl
  · simp only [impl_ends.j0]; rfl
theorem skTossed_eq (p g n : Int) : spec_skTossed.f p g n = some (decide (((1 ≤ g ∧ g ≤ 16) ∧ 0 ≤ p ∧ p ≤ g) ∧ 0 ≤ n ∧ n ≤ 30)) := by
  unfold spec_skTossed.f
  rw [skGood_eq, l1In_eq]; simp only [Option.bind_some, ite_dec]
theorem sum_ev (xs : List Int) (g : Int) (hg0 : 1 ≤ g) (hg : g ≤ 16) (hl : xs.length = (g + 1).toNat) : ∀ (d : Nat) (s j : Int), 0 ≤ j → j + d = g - 1 →
    Mth.Evn (fun k => impl_sum.l0 k s ((xs.take g.toNat).drop 1) (((xs.take g.toNat).drop 1).length : Int) j) (open_ xs g d s (j + 1))
  | 0, s, j, h0, hd => by
    have hL : (((xs.take g.toNat).drop 1).length : Int) = g - 1 := by simp; omega
    rw [hL]
    refine (Mth.Evn.now _).step fun k => ?_
    simp only [impl_sum.l0]
    rw [if_neg (by omega)]; rfl
  | d + 1, s, j, h0, hd => by
    have hL : (((xs.take g.toNat).drop 1).length : Int) = g - 1 := by simp; omega
    have hr : rd ((xs.take g.toNat).drop 1) j = rd xs (j + 1) := by
      unfold rd
      rw [List.getD_eq_getElem?_getD, List.getD_eq_getElem?_getD, List.getElem?_drop, List.getElem?_take, if_pos (by omega), show 1 + j.toNat = (j + 1).toNat by omega]
    refine (sum_ev xs g hg0 hg hl d (wrap64 (s + rd xs (j + 1))) (j + 1) (by omega) (by omega)).step fun k => ?_
    simp only [impl_sum.l0]
    rw [hL, if_pos (by omega), if_pos h0, if_pos (by omega), hr, wrap_id (x := j + 1) (by omega) (by omega)]
theorem holds (a0_0 : Int) (a0_1 : Int) (a1 : Int) (w0_0 : (Lit.int .i64 a0_0).wf = true) (w0_1 : (Lit.int .i64 a0_1).wf = true) (w1 : (Lit.int .i64 a1).wf = true) : ∃ k, laws_FnExactCountInPlay.f k a0_0 a0_1 a1 = some true := by
  refine Mth.Evn.get (f := fun k => laws_FnExactCountInPlay.f k a0_0 a0_1 a1) ?_
  by_cases h : ((1 ≤ a0_1 ∧ a0_1 ≤ 16) ∧ 0 ≤ a0_0 ∧ a0_0 ≤ a0_1) ∧ 0 ≤ a1 ∧ a1 ≤ 30
  · obtain ⟨⟨⟨h1, h2⟩, h3, h4⟩, h5, h6⟩ := h
    have A := skCount_ev a0_0 a0_1 a1 h1 h2 h3 h4 h5 h6
    have B := ends_ev a0_0 a0_1 a1 h1 h2 h3 h4 h5 h6
    have L := fin_len a0_0 a0_1 a1
    obtain ⟨K, hK⟩ := A
    obtain ⟨K', hK'⟩ := B
    obtain ⟨K2, hK2⟩ := sum_ev (fin a0_0 a0_1 a1) a0_1 h1 h2 L (a0_1 - 1).toNat 0 0 (by omega) (by omega)
    refine ⟨max K2 (max K K'), fun k hk => ?_⟩
    simp only [laws_FnExactCountInPlay.f, laws_toStakes.f, spec_CountInPlay.f, impl_CountInPlay.f, skTossed_eq, Option.bind_some]
    have e1 := hK k (by omega)
    have e2 := hK' k (by omega)
    have e3 := hK2 k (by omega)
    simp only at e1 e2 e3
    rw [e1, e2, decide_eq_true ⟨⟨⟨h1, h2⟩, h3, h4⟩, h5, h6⟩]
    simp only [Option.bind_some, if_true]
    rw [if_pos (by omega), if_pos (by omega)]
    unfold impl_sum.f
    rw [e3]
    simp
  · obtain ⟨K, hK⟩ := ends_no a0_0 a0_1 a1 h
    refine ⟨K, fun k hk => ?_⟩
    simp only [laws_FnExactCountInPlay.f, laws_toStakes.f, spec_CountInPlay.f, impl_CountInPlay.f, skTossed_eq, Option.bind_some]
    have e1 := hK k hk
    simp only at e1
    rw [e1, decide_eq_false h]
    simp
end Go.Proofs.Ytkcpmdkjhpbmfaa.PureFnExactCountInPlay
