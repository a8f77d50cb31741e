/- The functions that a law reaches, as plain Lean functions, and their walks. Written by a program of this session, turned out of the kit's print. Conditions: those that each theorem names. -/
import Derived.Test.YtkcpmdkjhpbmfaaQFnExactBestStakesx0
import Derived.Test.YtkcpmdkjhpbmfaaQFnExactBestStakesx4
import Derived.Test.YtkcpmdkjhpbmfaaQFnExactBestStakesx5
namespace Go.Proofs.Ytkcpmdkjhpbmfaa.QFnExactBestStakes
open Go.RowKit Go.Proofs.YtkcpmdkjhpbmfaaW.PrintWords Go.Proofs.YtkcpmdkjhpbmfaaW.PrintLast Go.Proofs.YtkcpmdkjhpbmfaaW.PrintMore
attribute [local go_sem] max2_int min2_int max_two min_two max_three min_three max_four min_four   -- for this text's walks alone
attribute [local go_sem] Go.Proofs.Ytkcpmdkjhpbmfaa.Kit.isSome_setCell
set_option linter.unusedVariables false
set_option linter.unusedSimpArgs false

/-! ### impl_Coin_table: function 67 -/
mutual
def impl_Coin_table.l0 : Nat → Int → Int → List (S56) → Int → Int → Int → Int → Option ((List (S56)))
  | 0, _, _, _, _, _, _, _ => none
  | k + 1, x1, x2, x7, x18, x19, x217000, x217001 => if x19 < x18 then (if x1 = 0 then (none) else ((impl_whole.f (wrap64 (Int.tdiv x19 x1))).bind fun bt220 => (if 0 ≤ x19 then (if x19 < (x7.length : Int) then (impl_Coin_table.l0 k x1 x2 (x7.set (x19 : Int).toNat (⟨bt220.1, bt220.2⟩ : S56)) x18 (wrap64 (x19 + 1)) x217000 x217001) else (none)) else (none)))) else (impl_Coin_table.l1 k x1 x7 x2 0 x217000 x217001)
def impl_Coin_table.l1 : Nat → Int → List (S56) → Int → Int → Int → Int → Option ((List (S56)))
  | 0, _, _, _, _, _, _ => none
  | k + 1, x1, x7, x30, x31, x217000, x217001 => if x31 < x30 then (if 0 ≤ (wrap64 (x1 + 1)) then (if (wrap64 (x1 + 1) : Int).toNat ≤ 17592186044416 then ((some (List.replicate (wrap64 (x1 + 1) : Int).toNat z56 : List (S56))).bind fun y223 => (impl_Coin_table.l2 k x1 x7 y223 x30 x31 (y223.length : Int) 0 x217000 x217001)) else (none)) else (none)) else (some x7)
def impl_Coin_table.l2 : Nat → Int → List (S56) → List (S56) → Int → Int → Int → Int → Int → Int → Option ((List (S56)))
  | 0, _, _, _, _, _, _, _, _, _ => none
  | k + 1, x1, x7, x9, x30, x31, x37, x38, x217000, x217001 => if x38 < x37 then (if 0 ≤ x38 then (if x38 < (x7.length : Int) then (if x38 < (x9.length : Int) then ((impl_freely.f k x38 x1).bind fun t228 => (impl_Coin_table.l3 k x1 x7 (x9.set (x38 : Int).toNat (⟨(rd_T56 x7 x38).f0, (rd_T56 x7 x38).f1⟩ : S56)) x38 x30 x31 x37 x38 t228 (t228.length : Int) 0 x217000 x217001)) else (none)) else (none)) else (none)) else (impl_Coin_table.l1 k x1 x9 x30 (wrap64 (x31 + 1)) x217000 x217001)
def impl_Coin_table.l3 : Nat → Int → List (S56) → List (S56) → Int → Int → Int → Int → Int → List Int → Int → Int → Int → Int → Option ((List (S56)))
  | 0, _, _, _, _, _, _, _, _, _, _, _, _, _ => none
  | k + 1, x1, x7, x9, x10, x30, x31, x37, x38, x51, x52, x53, x217000, x217001 => if x53 < x52 then (if 0 ≤ x53 then (if x53 < (x51.length : Int) then ((impl_Coin_staked.f k x217000 x217001 x7 x10 (rd x51 x53)).bind fun bt232 => (if 0 ≤ x10 then (if x10 < (x9.length : Int) then ((impl_frac_isMore.f bt232.1 bt232.2 ((rd_T56 x9 x10).f0) ((rd_T56 x9 x10).f1)).bind fun t236 => (if t236 = true then (impl_Coin_table.l3 k x1 x7 (x9.set (x10 : Int).toNat (⟨bt232.1, bt232.2⟩ : S56)) x10 x30 x31 x37 x38 x51 x52 (wrap64 (x53 + 1)) x217000 x217001) else (impl_Coin_table.l3 k x1 x7 x9 x10 x30 x31 x37 x38 x51 x52 (wrap64 (x53 + 1)) x217000 x217001))) else (none)) else (none))) else (none)) else (none)) else (impl_Coin_table.l2 k x1 x7 x9 x30 x31 x37 (wrap64 (x38 + 1)) x217000 x217001)
end
def impl_Coin_table.f (k : Nat) (a0_0 : Int) (a0_1 : Int) (a1 : Int) (a2 : Int) : Option ((List (S56))) := if 0 ≤ (wrap64 (a1 + 1)) then (if (wrap64 (a1 + 1) : Int).toNat ≤ 17592186044416 then ((some (List.replicate (wrap64 (a1 + 1) : Int).toNat z56 : List (S56))).bind fun y217 => (impl_Coin_table.l0 k a1 a2 y217 (y217.length : Int) 0 a0_0 a0_1)) else (none)) else (none)
theorem impl_Coin_table.mono_l : ∀ k, (∀ y0 y1 y2 y3 y4 y5 y6, LeO (impl_Coin_table.l0 k y0 y1 y2 y3 y4 y5 y6) (impl_Coin_table.l0 (k + 1) y0 y1 y2 y3 y4 y5 y6)) ∧ (∀ y0 y1 y2 y3 y4 y5, LeO (impl_Coin_table.l1 k y0 y1 y2 y3 y4 y5) (impl_Coin_table.l1 (k + 1) y0 y1 y2 y3 y4 y5)) ∧ (∀ y0 y1 y2 y3 y4 y5 y6 y7 y8, LeO (impl_Coin_table.l2 k y0 y1 y2 y3 y4 y5 y6 y7 y8) (impl_Coin_table.l2 (k + 1) y0 y1 y2 y3 y4 y5 y6 y7 y8)) ∧ (∀ y0 y1 y2 y3 y4 y5 y6 y7 y8 y9 y10 y11 y12, LeO (impl_Coin_table.l3 k y0 y1 y2 y3 y4 y5 y6 y7 y8 y9 y10 y11 y12) (impl_Coin_table.l3 (k + 1) y0 y1 y2 y3 y4 y5 y6 y7 y8 y9 y10 y11 y12))
  | 0 => ⟨fun _ _ _ _ _ _ _ r h => by simp [impl_Coin_table.l0] at h, fun _ _ _ _ _ _ r h => by simp [impl_Coin_table.l1] at h, fun _ _ _ _ _ _ _ _ _ r h => by simp [impl_Coin_table.l2] at h, fun _ _ _ _ _ _ _ _ _ _ _ _ _ r h => by simp [impl_Coin_table.l3] at h⟩
  | k + 1 => by
    obtain ⟨ih0, ih1, ih2, ih3⟩ := impl_Coin_table.mono_l k
    refine ⟨?_, ?_, ?_, ?_⟩
    · intro y0 y1 y2 y3 y4 y5 y6
      unfold impl_Coin_table.l0
      repeat' first
      | (with_reducible exact ih0 _ _ _ _ _ _ _)
      | (with_reducible exact ih1 _ _ _ _ _ _)
      | (with_reducible exact ih2 _ _ _ _ _ _ _ _ _)
      | (with_reducible exact ih3 _ _ _ _ _ _ _ _ _ _ _ _ _)
      | (with_reducible exact impl_Coin_staked.mono _ _ _ _ _ _)
      | (with_reducible exact impl_freely.mono _ _ _)
      | (with_reducible exact LeO.refl _)
      | (with_reducible exact LeO.none _)
      | (with_reducible refine LeO.ite ?_ ?_)
      | (with_reducible refine LeO.bind ?_ (fun _ => ?_))
      | exact ih0 _ _ _ _ _ _ _
      | exact ih1 _ _ _ _ _ _
      | exact ih2 _ _ _ _ _ _ _ _ _
      | exact ih3 _ _ _ _ _ _ _ _ _ _ _ _ _
      | exact impl_Coin_staked.mono _ _ _ _ _ _
      | exact impl_freely.mono _ _ _
      | exact LeO.none _
      | refine LeO.ite ?_ ?_
      | refine LeO.bind ?_ (fun _ => ?_)
    · intro y0 y1 y2 y3 y4 y5
      unfold impl_Coin_table.l1
      repeat' first
      | (with_reducible exact ih0 _ _ _ _ _ _ _)
      | (with_reducible exact ih1 _ _ _ _ _ _)
      | (with_reducible exact ih2 _ _ _ _ _ _ _ _ _)
      | (with_reducible exact ih3 _ _ _ _ _ _ _ _ _ _ _ _ _)
      | (with_reducible exact impl_Coin_staked.mono _ _ _ _ _ _)
      | (with_reducible exact impl_freely.mono _ _ _)
      | (with_reducible exact LeO.refl _)
      | (with_reducible exact LeO.none _)
      | (with_reducible refine LeO.ite ?_ ?_)
      | (with_reducible refine LeO.bind ?_ (fun _ => ?_))
      | exact ih0 _ _ _ _ _ _ _
      | exact ih1 _ _ _ _ _ _
      | exact ih2 _ _ _ _ _ _ _ _ _
      | exact ih3 _ _ _ _ _ _ _ _ _ _ _ _ _
      | exact impl_Coin_staked.mono _ _ _ _ _ _
      | exact impl_freely.mono _ _ _
      | exact LeO.none _
      | refine LeO.ite ?_ ?_
      | refine LeO.bind ?_ (fun _ => ?_)
    · intro y0 y1 y2 y3 y4 y5 y6 y7 y8
      unfold impl_Coin_table.l2
      repeat' first
      | (with_reducible exact ih0 _ _ _ _ _ _ _)
      | (with_reducible exact ih1 _ _ _ _ _ _)
      | (with_reducible exact ih2 _ _ _ _ _ _ _ _ _)
      | (with_reducible exact ih3 _ _ _ _ _ _ _ _ _ _ _ _ _)
      | (with_reducible exact impl_Coin_staked.mono _ _ _ _ _ _)
      | (with_reducible exact impl_freely.mono _ _ _)
      | (with_reducible exact LeO.refl _)
      | (with_reducible exact LeO.none _)
      | (with_reducible refine LeO.ite ?_ ?_)
      | (with_reducible refine LeO.bind ?_ (fun _ => ?_))
      | exact ih0 _ _ _ _ _ _ _
      | exact ih1 _ _ _ _ _ _
      | exact ih2 _ _ _ _ _ _ _ _ _
      | exact ih3 _ _ _ _ _ _ _ _ _ _ _ _ _
      | exact impl_Coin_staked.mono _ _ _ _ _ _
      | exact impl_freely.mono _ _ _
      | exact LeO.none _
      | refine LeO.ite ?_ ?_
      | refine LeO.bind ?_ (fun _ => ?_)
    · intro y0 y1 y2 y3 y4 y5 y6 y7 y8 y9 y10 y11 y12
      unfold impl_Coin_table.l3
      repeat' first
      | (with_reducible exact ih0 _ _ _ _ _ _ _)
      | (with_reducible exact ih1 _ _ _ _ _ _)
      | (with_reducible exact ih2 _ _ _ _ _ _ _ _ _)
      | (with_reducible exact ih3 _ _ _ _ _ _ _ _ _ _ _ _ _)
      | (with_reducible exact impl_Coin_staked.mono _ _ _ _ _ _)
      | (with_reducible exact impl_freely.mono _ _ _)
      | (with_reducible exact LeO.refl _)
      | (with_reducible exact LeO.none _)
      | (with_reducible refine LeO.ite ?_ ?_)
      | (with_reducible refine LeO.bind ?_ (fun _ => ?_))
      | exact ih0 _ _ _ _ _ _ _
      | exact ih1 _ _ _ _ _ _
      | exact ih2 _ _ _ _ _ _ _ _ _
      | exact ih3 _ _ _ _ _ _ _ _ _ _ _ _ _
      | exact impl_Coin_staked.mono _ _ _ _ _ _
      | exact impl_freely.mono _ _ _
      | exact LeO.none _
      | refine LeO.ite ?_ ?_
      | refine LeO.bind ?_ (fun _ => ?_)
theorem impl_Coin_table.mono : ∀ a0 a1 a2 a3 k, LeO (impl_Coin_table.f k a0 a1 a2 a3) (impl_Coin_table.f (k + 1) a0 a1 a2 a3) := by
  intro a0 a1 a2 a3 k
  obtain ⟨ih0, ih1, ih2, ih3⟩ := impl_Coin_table.mono_l k
  unfold impl_Coin_table.f
  repeat' first
      | (with_reducible exact ih0 _ _ _ _ _ _ _)
      | (with_reducible exact ih1 _ _ _ _ _ _)
      | (with_reducible exact ih2 _ _ _ _ _ _ _ _ _)
      | (with_reducible exact ih3 _ _ _ _ _ _ _ _ _ _ _ _ _)
      | (with_reducible exact impl_Coin_staked.mono _ _ _ _ _ _)
      | (with_reducible exact impl_freely.mono _ _ _)
      | (with_reducible exact LeO.refl _)
      | (with_reducible exact LeO.none _)
      | (with_reducible refine LeO.ite ?_ ?_)
      | (with_reducible refine LeO.bind ?_ (fun _ => ?_))
      | exact ih0 _ _ _ _ _ _ _
      | exact ih1 _ _ _ _ _ _
      | exact ih2 _ _ _ _ _ _ _ _ _
      | exact ih3 _ _ _ _ _ _ _ _ _ _ _ _ _
      | exact impl_Coin_staked.mono _ _ _ _ _ _
      | exact impl_freely.mono _ _ _
      | exact LeO.none _
      | refine LeO.ite ?_ ?_
      | refine LeO.bind ?_ (fun _ => ?_)
set_option maxHeartbeats 8000000 in
set_option maxRecDepth 100000 in
theorem impl_Coin_table.calls (k : Nat) (a0_0 : Int) (a0_1 : Int) (a1 : Int) (a2 : Int) (r : List (S56)) (w : World) (h : impl_Coin_table.f k a0_0 a0_1 a1 a2 = some r) :
    Calls Try.prog 67 #[.agg #[.int .i64 a0_0, .int .i64 a0_1], .int .i64 a1, .int .i64 a2] w fun e w' => ∃ v0_ : Value, e = .returned (v0_) ∧ Kd.R k56 56 w' w.heap.size (fun _ => True) v0_ r ∧ Below w.heap.size w w' := by
  have hu33 := Try.underlying33
  have hu56 := Try.underlying56
  have hu26 := Try.underlying26
  have HB := Aside0.mk (Below.refl w.heap.size w)
  have H : (if 0 ≤ (wrap64 (a1 + 1)) then (if (wrap64 (a1 + 1) : Int).toNat ≤ 17592186044416 then ((some (List.replicate (wrap64 (a1 + 1) : Int).toNat z56 : List (S56))).bind fun y217 => (impl_Coin_table.l0 k a1 a2 y217 (y217.length : Int) 0 a0_0 a0_1)) else (none)) else (none)) = some r := h
  clear h
  obtain ⟨ji4, hji4⟩ : ∃ j_ : Int, (wrap64 (a1 + 1)) = j_ := ⟨_, rfl⟩
  replace H : (if 0 ≤ (ji4) then (if (ji4 : Int).toNat ≤ 17592186044416 then ((some (List.replicate (ji4 : Int).toNat z56 : List (S56))).bind fun y217 => (impl_Coin_table.l0 k a1 a2 y217 (y217.length : Int) 0 a0_0 a0_1)) else (none)) else (none)) = some r := by first | (rw [hji4] at H; exact H) | (simp only [hji4] at H ⊢; exact H)
  have hji4w : (IntKind.i64.wrap (a1 + 1)) = ji4 := (i64_w _).trans hji4
  by_cases c5 : 0 ≤ (ji4)
  · rw [if_pos c5] at H
    have c5b0 := eq_true c5
    have c5b1 : decide (0 ≤ (ji4)) = true := decide_eq_true c5
    clear c5
    by_cases c6 : (ji4 : Int).toNat ≤ 17592186044416
    · rw [if_pos c6] at H
      have c6b0 := eq_true c6
      have c6b1 : decide ((ji4 : Int).toNat ≤ 17592186044416) = true := decide_eq_true c6
      clear c6
      obtain ⟨y217, hy217⟩ : ∃ y_ : List (S56), y_ = (List.replicate (ji4 : Int).toNat z56) := ⟨_, rfl⟩
      replace H : (impl_Coin_table.l0 k a1 a2 y217 (y217.length : Int) 0 a0_0 a0_1) = some r := by first | (rw [hy217]; with_reducible exact H) | (have H2_ := (Option.bind_some _ _).symm.trans H; rw [hy217]; with_reducible exact H2_) | (have H2_ := (Option.bind_some _ _).symm.trans H; with_reducible exact H2_) | with_reducible exact H | (rw [hy217]; exact H) | exact H
      have Ny217 := Aside0.mk hy217
      clear hy217
      have H' := Aside0.mk H
      clear H
      go_enter Try.func67, Try.ntmps67
      go_wp2_with (first | ((with_reducible refine gate_dst (N := 3) rfl ?_); refine box_event ?hg (N := 3) ?hd (cs := #[.int .i64 a0_0, .int .i64 a0_1]) (t := 33) ?hr ?_; (case hd => rfl); (case hg => rfl); (case hr => first | (go_simp; done) | (go_simp; rfl)); intro gb216 hg w7 hbox hb; have n0_ := Aside0.mk (below_step (by repeat (first | (with_reducible first | exact HB.out | apply below_alloc | apply pw_below_drewN | apply below_drew1) | exact HB.out)) hb); have n1_ := Aside0.mk (hbox); have n2_ := Aside0.mk ((by rw [hg]; exact (below_size (by repeat (first | (with_reducible first | exact HB.out | apply below_alloc | apply pw_below_drewN | apply below_drew1) | exact HB.out))) : w.heap.size ≤ gb216)); have n3_ := Aside0.mk ((by rw [hg]; exact (below_size (by repeat (first | (with_reducible first | exact HB.out | apply below_alloc | apply pw_below_drewN | apply below_drew1) | exact HB.out))) : w.heap.size ≤ gb216)); clear HB; have HB := n0_; have BK216 := n1_; have GW216 := n2_; have GE216 := n3_; clear n0_ n1_ n2_ n3_; clear hb hbox hg) | ((with_reducible refine gate_dst (N := 16) rfl ?_); refine Kd.R_make k56 _ 56 rfl (N := 16) rfl 71 _ _ rfl ji4 rfl rfl Try.underlying71 (.agg #[(.int .i64 0), (.int .i64 0)]) 16 info56 rfl (by decide) (by omega) z56 (ok := fun _ => True) (okp := fun _ => True) (k56_mkM _ _ _ z56 ) (fun _ hk => hk) trivial (of_decide_eq_true (by first | (with_reducible assumption) | assumption)) (Nat.le_trans (Nat.mul_le_mul_right _ (of_decide_eq_true (by first | (with_reducible assumption) | assumption) : ji4.toNat ≤ 17592186044416)) (by omega)) (Below.refl _ _) (Nat.le_refl _) ?_; intro v218 w8 ho9 hb hg_ hnew_; clear hg_ hnew_; (first | rw [← Ny217.out] at ho9 | (simp only [Int.reduceToNat] at ho9; rw [← Ny217.out] at ho9)); have n0_ := Aside0.mk (Kd.R_lower ho9 (below_size (by repeat (first | (with_reducible first | exact HB.out | apply below_alloc | apply pw_below_drewN | apply below_drew1 | refine below_set ?_ GE216.out) | exact HB.out)))); have n1_ := Aside0.mk (blk_below (g := gb216) (o := .cells #[.int .i64 a0_0, .int .i64 a0_1] 33 (0, 0)) (by (with_reducible repeat (first | refine blk_drewN ?_ _ | refine blk_drew ?_ | refine blk_alloc ?_ _)); exact BK216.out) hb); have n2_ := Aside0.mk (below_step (by repeat (first | (with_reducible first | exact HB.out | apply below_alloc | apply pw_below_drewN | apply below_drew1 | refine below_set ?_ GE216.out) | exact HB.out)) hb); clear BK216; clear HB; have HO219 := n0_; have BK216 := n1_; have HB := n2_; clear n0_ n1_ n2_; clear hb ho9; obtain ⟨Ao10, co10, eo10⟩ := Kd.R_slice HO219.out; subst eo10))
      go_loopg [19] k (fun kq v19 w' => ∃ (x7_1 : List (S56)) (x19_1 : Int), v19 = .int .i64 x19_1 ∧ Aside0 (impl_Coin_table.l0 kq a1 a2 x7_1 (y217.length : Int) x19_1 a0_0 a0_1 = some r) ∧ Aside0 (kq ≤ k) ∧ Aside0 (Kd.R k56 56 w' w.heap.size (fun _ => True) (.slice Ao10 y217.length co10) x7_1) ∧ Aside0 (w'.heap[gb216]? = some (.cells #[.int .i64 a0_0, .int .i64 a0_1] 33 (0, 0))) ∧ Aside0 (Below w.heap.size w w'))
      case atStart => exact ⟨(y217), (0), (by first | rfl | (simp; done) | (simp [*]; done)), H', ⟨Nat.le_refl _⟩, ⟨by (with_reducible repeat (first | apply Kd.R_alloc | apply Kd.R_drewN | apply Kd.R_drew)); exact HO219.out⟩, ⟨by (with_reducible repeat (first | refine blk_drewN ?_ _ | refine blk_drew ?_ | refine blk_alloc ?_ _)); exact BK216.out⟩, ⟨by repeat (first | (with_reducible first | exact HB.out | apply below_alloc | apply pw_below_drewN | apply below_drew1 | refine below_set ?_ GE216.out) | exact HB.out)⟩⟩
      case round =>
        clear H'
        try clear p2
        try clear c5
        try clear c5b0
        try clear c5b1
        try clear c6
        try clear c6b0
        try clear c6b1
        try clear p6
        try clear hji4w
        try clear hji4
        obtain ⟨x7_1, x19_1, rfl, HA, HK1, HO_7, BK216, HB⟩ := hrel
        have hl7_1 := (Kd.R_reads' HO_7.out).1
        rw [hl7_1] at HO_7
        (try simp only [hl7_1])
        (try simp only [hl7_1] at BK216)
        cases gk with
        | zero => exact absurd HA.out (by simp [impl_Coin_table.l0])
        | succ k1 =>
          have H := HA.out
          clear HA
          simp only [impl_Coin_table.l0] at H
          by_cases c11 : x19_1 < (y217.length : Int)
          · rw [if_pos c11] at H
            have c11b0 : decide (x19_1 < (y217.length : Int)) = true := decide_eq_true c11
            (try (have c11b9 := c11b0; simp only [hl7_1] at c11b9))
            clear c11
            by_cases c12 : a1 = 0
            · rw [if_pos c12] at H
              exact absurd H (by simp)
            · rw [if_neg c12] at H
              have c12b0 : (a1 == 0) = false := beq_eq_false_iff_ne.mpr c12
              have c12b1 : (a1 != 0) = true := bne_iff_ne.mpr c12
              (try (have c12b9 := c12b0; simp only [hl7_1] at c12b9))
              replace H := Option.bind_eq_some_iff.mp H
              obtain ⟨⟨t220, t221⟩, A130, H⟩ := H
              replace H : (if 0 ≤ x19_1 then (if x19_1 < (x7_1.length : Int) then (impl_Coin_table.l0 k1 a1 a2 (x7_1.set (x19_1 : Int).toNat (⟨t220, t221⟩ : S56)) (y217.length : Int) (wrap64 (x19_1 + 1)) a0_0 a0_1) else (none)) else (none)) = some r := H
              have A13 := Aside0.mk A130
              clear A130
              by_cases c14 : 0 ≤ x19_1
              · rw [if_pos c14] at H
                have c14b0 : decide (0 ≤ x19_1) = true := decide_eq_true c14
                (try (have c14b9 := c14b0; simp only [hl7_1] at c14b9))
                clear c14
                by_cases c15 : x19_1 < (x7_1.length : Int)
                · rw [if_pos c15] at H
                  have c15b0 : decide (x19_1 < (x7_1.length : Int)) = true := decide_eq_true c15
                  (try (have c15b9 := c15b0; simp only [hl7_1] at c15b9))
                  clear c15
                  obtain ⟨y222, hy222⟩ : ∃ y_ : List (S56), y_ = (x7_1.set (x19_1 : Int).toNat (⟨t220, t221⟩ : S56)) := ⟨_, rfl⟩
                  replace H : (impl_Coin_table.l0 k1 a1 a2 y222 (y217.length : Int) (wrap64 (x19_1 + 1)) a0_0 a0_1) = some r := by first | (rw [hy222]; with_reducible exact H) | (have H2_ := (Option.bind_some _ _).symm.trans H; rw [hy222]; with_reducible exact H2_) | (have H2_ := (Option.bind_some _ _).symm.trans H; with_reducible exact H2_) | with_reducible exact H | (rw [hy222]; exact H) | exact H
                  have Ny222 := Aside0.mk hy222
                  clear hy222
                  have H' := Aside0.mk H
                  clear H
                  go_wp2_with (first | ((with_reducible refine gate_callee (f := 60) rfl ?_); refine goesL_ (some 27) rfl rfl Try.func60 (by kernel_rfl) rfl #[.int .i64 (wrap64 (Int.tdiv x19_1 a1))] rfl (by (try simp only [List.map_toArray, List.map_cons, List.map_nil]); first | done | rfl | (simp only [List.length_drop, List.length_take]; rfl)) ?_; (with_reducible refine (impl_whole.calls (wrap64 (Int.tdiv x19_1 a1)) t220 t221 _ A13.out).mono ?_); rintro e w17 ⟨rfl, hb⟩; refine ⟨_, rfl, ?_⟩; have n0_ := Aside0.mk (Kd.R_below (by (with_reducible repeat (first | apply Kd.R_alloc | apply Kd.R_drewN | apply Kd.R_drew)); exact HO_7.out) hb); have n1_ := Aside0.mk (blk_below (g := gb216) (o := .cells #[.int .i64 a0_0, .int .i64 a0_1] 33 (0, 0)) (by (with_reducible repeat (first | refine blk_drewN ?_ _ | refine blk_drew ?_ | refine blk_alloc ?_ _)); exact BK216.out) hb); have n2_ := Aside0.mk (below_step (by repeat (first | (with_reducible first | exact HB.out | apply below_alloc | apply pw_below_drewN | apply below_drew1 | refine below_set ?_ GE216.out) | exact HB.out)) hb); clear HO_7; clear BK216; clear HB; have HO_7 := n0_; have BK216 := n1_; have HB := n2_; clear n0_ n1_ n2_; (try clear hb); (try clear hb2); (try clear hk); (try clear hi); have p16 : 0 ≤ (x19_1 : Int) := of_decide_eq_true (by first | (with_reducible assumption) | assumption); have q16 : (x19_1 : Int) < ((x7_1.length : Int) : Int) := of_decide_eq_true (by first | (with_reducible assumption) | assumption); obtain ⟨go16, co16, eo16, gb16, gl16, cl16, HG16⟩ := Kd.R_form HO_7.out (by omega); (first | cases eo16 | (injection eo16 with ea_ en_ ec_; (first | subst ea_ | (injection ea_ with ea_; subst ea_)); subst ec_; clear en_)); have GB16 := Aside0.mk gb16; have GG16 := Aside0.mk HG16; clear gb16 gl16 HG16; obtain ⟨ce16, hcl16, hM16, hcc16, hfr16⟩ := Kd.R_elem HO_7.out z56 (x19_1 : Int) p16 q16; obtain rfl := k56_openM hM16; have hx16_0 : w17.cell? ⟨go16, (x19_1 : Int).toNat * 2, none⟩ = some (.int .i64 ((rd_T56 x7_1 x19_1).f0)) := hcc16 0 _ rfl; have hx16_1 : w17.cell? ⟨go16, (x19_1 : Int).toNat * 2 + 1, none⟩ = some (.int .i64 ((rd_T56 x7_1 x19_1).f1)) := hcc16 1 _ rfl; have hf16_0 : w17.frozen? ⟨go16, (x19_1 : Int).toNat * 2, none⟩ = false := hfr16 0; have hf16_1 : w17.frozen? ⟨go16, (x19_1 : Int).toNat * 2 + 1, none⟩ = false := hfr16 1; clear hcl16 hcc16 hfr16 hM16; replace p16 := eq_true p16; replace q16 := eq_true q16; have HX18 := Aside0.mk (show Kd.R k56 56 w17 w.heap.size (fun _ => True) (.slice (some ⟨go16, 0, none⟩) x7_1.length co10) x7_1 from (by (with_reducible repeat (first | apply Kd.R_alloc | apply Kd.R_drewN | apply Kd.R_drew)); exact HO_7.out)); obtain ⟨ce18, hcl18, hM18, hcc18, hfr18⟩ := Kd.R_elem HX18.out z56 (x19_1 : Int) (of_decide_eq_true (by first | (with_reducible assumption) | assumption)) (by have h_ : (x19_1 : Int) < ((x7_1.length : Int) : Int) := of_decide_eq_true (by first | (with_reducible assumption) | assumption); first | exact h_ | (have e_ := (Kd.R_reads' HO_7.out).1; omega) | simpa using h_); obtain rfl := k56_openM hM18; have HP18 := Kd.R_seg HX18.out (x19_1 : Int) (of_decide_eq_true (by first | (with_reducible assumption) | assumption)) (by have h_ : (x19_1 : Int) < ((x7_1.length : Int) : Int) := of_decide_eq_true (by first | (with_reducible assumption) | assumption); first | exact h_ | (have e_ := (Kd.R_reads' HO_7.out).1; omega) | simpa using h_) (seg := [.int .i64 t220, .int .i64 t221]) (j := 0) hcl18 hcc18 (show 2 ≤ 2 from by decide) (x' := (⟨t220, t221⟩ : S56)) (k56_mkM _ _ _ (⟨t220, t221⟩ : S56) ) (fun _ hk => hk); have hx18_0 := hcc18 0 _ rfl; (try simp only [show (k56).sz = 2 from rfl, Nat.mul_one, Nat.add_zero] at hx18_0); have hf18_0 := hfr18 0; (try simp only [show (k56).sz = 2 from rfl, Nat.mul_one, Nat.add_zero] at hf18_0); have hx18_1 := hcc18 1 _ rfl; (try simp only [show (k56).sz = 2 from rfl, Nat.mul_one, Nat.add_zero] at hx18_1); have hf18_1 := hfr18 1; (try simp only [show (k56).sz = 2 from rfl, Nat.mul_one, Nat.add_zero] at hf18_1); clear hcl18 hcc18 hfr18 hM18) | ((with_reducible refine gate_store (t := 56) (p := 28) rfl ?_); refine store_event (t := 56) (p := 28) (v := ?vo_w19) (w1 := ((w17.setCell ⟨go16, (x19_1 : Int).toNat * 2, none⟩ (.int .i64 t220)).setCell ⟨go16, (x19_1 : Int).toNat * 2 + 1, none⟩ (.int .i64 t221))) ?hg ?ho ?hn ?hr ?_; (case ho => rfl); (case hg => rfl); (case hn => rfl); (case hr => first | (go_simp; done) | (go_simp; rfl)); intro w19 hw; have hg : w17.grownBy w19 (some go16) := (by rw [hw]; exact HP18.2); have hp_ : Kd.R k56 56 w19 w.heap.size (fun _ => True) (.slice (some ⟨go16, 0, none⟩) x7_1.length co10) y222 := (by rw [hw, Ny222.out]; exact HP18.1); clear HP18; have n0_ := Aside0.mk (hp_); have n1_ := Aside0.mk (blk_grown (g := gb216) (o := .cells #[.int .i64 a0_0, .int .i64 a0_1] 33 (0, 0)) (by (with_reducible repeat (first | refine blk_drewN ?_ _ | refine blk_drew ?_ | refine blk_alloc ?_ _)); exact BK216.out) hg (Kd.R_ne HO_7.out BK216.out (by decide))); have n2_ := Aside0.mk ((by rw [hw]; exact below_set (below_set (HB.out) GB16.out) GB16.out : Below w.heap.size w w19)); clear HO_7; clear BK216; clear HB; have HO_7 := n0_; have BK216 := n1_; have HB := n2_; clear n0_ n1_ n2_; clear hg hw hp_))
                  (try simp only [← hl7_1])
                  go_roundg k1
                  case measure => have := HK1.out; omega
                  case rel => exact ⟨(y222), (wrap64 (x19_1 + 1)), (by first | rfl | (simp; done) | (simp [*]; done)), H', ⟨by have := HK1.out; omega⟩, ⟨by (try simp only [hl7_1]); (with_reducible repeat (first | apply Kd.R_alloc | apply Kd.R_drewN | apply Kd.R_drew)); exact HO_7.out⟩, ⟨by (try simp only [hl7_1]); (with_reducible repeat (first | refine blk_drewN ?_ _ | refine blk_drew ?_ | refine blk_alloc ?_ _)); exact BK216.out⟩, ⟨by repeat (first | (with_reducible first | exact HB.out | apply below_alloc | apply pw_below_drewN | apply below_drew1 | refine below_set ?_ GE216.out) | exact HB.out)⟩⟩
                · rw [if_neg c15] at H
                  exact absurd H (by simp)
              · rw [if_neg c14] at H
                exact absurd H (by simp)
          · rw [if_neg c11] at H
            have c11b0 : decide (x19_1 < (y217.length : Int)) = false := decide_eq_false c11
            (try (have c11b9 := c11b0; simp only [hl7_1] at c11b9))
            clear c11
            have H' := Aside0.mk H
            clear H
            go_wp2
            go_loopg [7, 31] k1 (fun kq v7 v31 w' => ∃ (x7_2 : List (S56)) (x31_2 : Int), v31 = .int .i64 x31_2 ∧ Aside0 (impl_Coin_table.l1 kq a1 x7_2 a2 x31_2 a0_0 a0_1 = some r) ∧ Aside0 (kq ≤ k1) ∧ Aside0 (Kd.R k56 56 w' w.heap.size (fun _ => True) v7 x7_2) ∧ Aside0 (w'.heap[gb216]? = some (.cells #[.int .i64 a0_0, .int .i64 a0_1] 33 (0, 0))) ∧ Aside0 (Below w.heap.size w w'))
            case atStart => exact ⟨(x7_1), (0), (by first | rfl | (simp; done) | (simp [*]; done)), H', ⟨Nat.le_refl _⟩, ⟨by (try simp only [hl7_1]); (with_reducible repeat (first | apply Kd.R_alloc | apply Kd.R_drewN | apply Kd.R_drew)); exact HO_7.out⟩, ⟨by (try simp only [hl7_1]); (with_reducible repeat (first | refine blk_drewN ?_ _ | refine blk_drew ?_ | refine blk_alloc ?_ _)); exact BK216.out⟩, ⟨by repeat (first | (with_reducible first | exact HB.out | apply below_alloc | apply pw_below_drewN | apply below_drew1 | refine below_set ?_ GE216.out) | exact HB.out)⟩⟩
            case round =>
              clear H'
              try clear c1
              try clear p1
              try clear q1
              try clear hx1
              try clear p2
              try clear c5
              try clear c5b0
              try clear c5b1
              try clear c6
              try clear c6b0
              try clear c6b1
              try clear p6
              try clear c11
              try clear c11b0
              try clear c11b9
              try clear c12
              try clear c12b0
              try clear c12b1
              try clear c12b9
              try clear c14
              try clear c14b0
              try clear c14b9
              try clear c15
              try clear c15b0
              try clear c15b9
              try clear c16
              try clear p16
              try clear q16
              try clear hx16
              try clear hf16
              try clear c18
              try clear hx18
              try clear hf18
              try clear hx16_0
              try clear hx16_1
              try clear hx18_0
              try clear hx18_1
              try clear p16
              try clear p2
              try clear p6
              try clear q16
              try clear hji4w
              try clear hji4
              obtain ⟨x7_2, x31_2, rfl, HA, HK2, HO_7, BK216, HB⟩ := hrel
              cases gk with
              | zero => exact absurd HA.out (by simp [impl_Coin_table.l1])
              | succ k2 =>
                have H := HA.out
                clear HA
                simp only [impl_Coin_table.l1] at H
                by_cases c20 : x31_2 < a2
                · rw [if_pos c20] at H
                  have c20b0 : decide (x31_2 < a2) = true := decide_eq_true c20
                  (try (have c20b9 := c20b0; simp only [hl7_1] at c20b9))
                  clear c20
                  obtain ⟨ji21, hji21⟩ : ∃ j_ : Int, (wrap64 (a1 + 1)) = j_ := ⟨_, rfl⟩
                  replace H : (if 0 ≤ (ji21) then (if (ji21 : Int).toNat ≤ 17592186044416 then ((some (List.replicate (ji21 : Int).toNat z56 : List (S56))).bind fun y223 => (impl_Coin_table.l2 k2 a1 x7_2 y223 a2 x31_2 (y223.length : Int) 0 a0_0 a0_1)) else (none)) else (none)) = some r := by first | (rw [hji21] at H; exact H) | (simp only [hji21] at H ⊢; exact H)
                  have hji21w : (IntKind.i64.wrap (a1 + 1)) = ji21 := (i64_w _).trans hji21
                  by_cases c22 : 0 ≤ (ji21)
                  · rw [if_pos c22] at H
                    have c22b0 := eq_true c22
                    have c22b1 : decide (0 ≤ (ji21)) = true := decide_eq_true c22
                    clear c22
                    by_cases c23 : (ji21 : Int).toNat ≤ 17592186044416
                    · rw [if_pos c23] at H
                      have c23b0 := eq_true c23
                      have c23b1 : decide ((ji21 : Int).toNat ≤ 17592186044416) = true := decide_eq_true c23
                      clear c23
                      obtain ⟨y223, hy223⟩ : ∃ y_ : List (S56), y_ = (List.replicate (ji21 : Int).toNat z56) := ⟨_, rfl⟩
                      replace H : (impl_Coin_table.l2 k2 a1 x7_2 y223 a2 x31_2 (y223.length : Int) 0 a0_0 a0_1) = some r := by first | (rw [hy223]; with_reducible exact H) | (have H2_ := (Option.bind_some _ _).symm.trans H; rw [hy223]; with_reducible exact H2_) | (have H2_ := (Option.bind_some _ _).symm.trans H; with_reducible exact H2_) | with_reducible exact H | (rw [hy223]; exact H) | exact H
                      have Ny223 := Aside0.mk hy223
                      clear hy223
                      have H' := Aside0.mk H
                      clear H
                      go_wp2_with (first | ((with_reducible refine gate_dst (N := 35) rfl ?_); refine Kd.R_make k56 _ 56 rfl (N := 35) rfl 71 _ _ rfl ji21 rfl rfl Try.underlying71 (.agg #[(.int .i64 0), (.int .i64 0)]) 16 info56 rfl (by decide) (by omega) z56 (ok := fun _ => True) (okp := fun _ => True) (k56_mkM _ _ _ z56 ) (fun _ hk => hk) trivial (of_decide_eq_true (by first | (with_reducible assumption) | assumption)) (Nat.le_trans (Nat.mul_le_mul_right _ (of_decide_eq_true (by first | (with_reducible assumption) | assumption) : ji21.toNat ≤ 17592186044416)) (by omega)) (Below.refl _ _) (Nat.le_refl _) ?_; intro v224 w24 ho25 hb hg_ hnew_; clear hg_ hnew_; (first | rw [← Ny223.out] at ho25 | (simp only [Int.reduceToNat] at ho25; rw [← Ny223.out] at ho25)); have n0_ := Aside0.mk (Kd.R_elder' (by (with_reducible repeat (first | apply Kd.R_alloc | apply Kd.R_drewN | apply Kd.R_drew)); exact HO_7.out) (Kd.R_base ho25) hb); have n1_ := Aside0.mk (Kd.R_lower (Kd.R_new' ho25 (Kd.R_lt (by (with_reducible repeat (first | apply Kd.R_alloc | apply Kd.R_drewN | apply Kd.R_drew)); exact HO_7.out))) (below_size (by repeat (first | (with_reducible first | exact HB.out | apply below_alloc | apply pw_below_drewN | apply below_drew1 | refine below_set ?_ GE216.out) | exact HB.out)))); have n2_ := Aside0.mk (blk_below (g := gb216) (o := .cells #[.int .i64 a0_0, .int .i64 a0_1] 33 (0, 0)) (by (with_reducible repeat (first | refine blk_drewN ?_ _ | refine blk_drew ?_ | refine blk_alloc ?_ _)); exact BK216.out) hb); have n3_ := Aside0.mk (below_step (by repeat (first | (with_reducible first | exact HB.out | apply below_alloc | apply pw_below_drewN | apply below_drew1 | refine below_set ?_ GE216.out) | exact HB.out)) hb); clear HO_7; clear BK216; clear HB; have HO_7 := n0_; have HO225 := n1_; have BK216 := n2_; have HB := n3_; clear n0_ n1_ n2_ n3_; clear hb ho25; obtain ⟨Ao26, co26, eo26⟩ := Kd.R_slice HO225.out; subst eo26))
                      go_loopg [38] k2 (fun kq v38 w' => ∃ (x9_3 : List (S56)) (x38_3 : Int), v38 = .int .i64 x38_3 ∧ Aside0 (impl_Coin_table.l2 kq a1 x7_2 x9_3 a2 x31_2 (y223.length : Int) x38_3 a0_0 a0_1 = some r) ∧ Aside0 (kq ≤ k2) ∧ Aside0 (Kd.R k56 56 w' w.heap.size (fun k_ => some k_ ≠ ((.slice Ao26 y223.length co26) : Value).ownBlock) u7 x7_2) ∧ Aside0 (Kd.R k56 56 w' w.heap.size (fun k_ => some k_ ≠ (u7 : Value).ownBlock) (.slice Ao26 y223.length co26) x9_3) ∧ Aside0 (w'.heap[gb216]? = some (.cells #[.int .i64 a0_0, .int .i64 a0_1] 33 (0, 0))) ∧ Aside0 (Below w.heap.size w w'))
                      case atStart => exact ⟨(y223), (0), (by first | rfl | (simp; done) | (simp [*]; done)), H', ⟨Nat.le_refl _⟩, ⟨by (try simp only [hl7_1]); (with_reducible repeat (first | apply Kd.R_alloc | apply Kd.R_drewN | apply Kd.R_drew)); exact Kd.R_mono HO_7.out (fun _ hk => hk.2)⟩, ⟨by (try simp only [hl7_1]); (with_reducible repeat (first | apply Kd.R_alloc | apply Kd.R_drewN | apply Kd.R_drew)); exact Kd.R_mono HO225.out (fun _ hk => hk.2)⟩, ⟨by (try simp only [hl7_1]); (with_reducible repeat (first | refine blk_drewN ?_ _ | refine blk_drew ?_ | refine blk_alloc ?_ _)); exact BK216.out⟩, ⟨by repeat (first | (with_reducible first | exact HB.out | apply below_alloc | apply pw_below_drewN | apply below_drew1 | refine below_set ?_ GE216.out) | exact HB.out)⟩⟩
                      case round =>
                        clear H'
                        try clear c1
                        try clear p1
                        try clear q1
                        try clear hx1
                        try clear c2
                        try clear p2
                        try clear c5
                        try clear c5b0
                        try clear c5b1
                        try clear c6
                        try clear c6b0
                        try clear c6b1
                        try clear p6
                        try clear c11
                        try clear c11b0
                        try clear c11b9
                        try clear c12
                        try clear c12b0
                        try clear c12b1
                        try clear c12b9
                        try clear c14
                        try clear c14b0
                        try clear c14b9
                        try clear c15
                        try clear c15b0
                        try clear c15b9
                        try clear c16
                        try clear p16
                        try clear q16
                        try clear hx16
                        try clear hf16
                        try clear c18
                        try clear hx18
                        try clear hf18
                        try clear c20
                        try clear c20b0
                        try clear c20b9
                        try clear c22
                        try clear c22b0
                        try clear c22b1
                        try clear c23
                        try clear c23b0
                        try clear c23b1
                        try clear hx16_0
                        try clear hx16_1
                        try clear hx18_0
                        try clear hx18_1
                        try clear p1
                        try clear p16
                        try clear p2
                        try clear p6
                        try clear q1
                        try clear q16
                        try clear hji21w
                        try clear hji21
                        try clear hji4w
                        try clear hji4
                        obtain ⟨x9_3, x38_3, rfl, HA, HK3, HO_7, HO_9, BK216, HB⟩ := hrel
                        have hl9_3 := (Kd.R_reads' HO_9.out).1
                        rw [hl9_3] at HO_9
                        (try simp only [hl9_3])
                        (try simp only [hl9_3] at BK216)
                        (try simp only [hl9_3] at HO_7)
                        cases gk with
                        | zero => exact absurd HA.out (by simp [impl_Coin_table.l2])
                        | succ k3 =>
                          have H := HA.out
                          clear HA
                          simp only [impl_Coin_table.l2] at H
                          by_cases c27 : x38_3 < (y223.length : Int)
                          · rw [if_pos c27] at H
                            have c27b0 : decide (x38_3 < (y223.length : Int)) = true := decide_eq_true c27
                            (try (have c27b9 := c27b0; simp only [hl7_1, hl9_3] at c27b9))
                            clear c27
                            by_cases c28 : 0 ≤ x38_3
                            · rw [if_pos c28] at H
                              have c28b0 : decide (0 ≤ x38_3) = true := decide_eq_true c28
                              (try (have c28b9 := c28b0; simp only [hl7_1, hl9_3] at c28b9))
                              clear c28
                              by_cases c29 : x38_3 < (x7_2.length : Int)
                              · rw [if_pos c29] at H
                                have c29b0 : decide (x38_3 < (x7_2.length : Int)) = true := decide_eq_true c29
                                (try (have c29b9 := c29b0; simp only [hl7_1, hl9_3] at c29b9))
                                clear c29
                                by_cases c30 : x38_3 < (x9_3.length : Int)
                                · rw [if_pos c30] at H
                                  have c30b0 : decide (x38_3 < (x9_3.length : Int)) = true := decide_eq_true c30
                                  (try (have c30b9 := c30b0; simp only [hl7_1, hl9_3] at c30b9))
                                  clear c30
                                  obtain ⟨y227, hy227⟩ : ∃ y_ : List (S56), y_ = (x9_3.set (x38_3 : Int).toNat (⟨(rd_T56 x7_2 x38_3).f0, (rd_T56 x7_2 x38_3).f1⟩ : S56)) := ⟨_, rfl⟩
                                  replace H : ((impl_freely.f k3 x38_3 a1).bind fun t228 => (impl_Coin_table.l3 k3 a1 x7_2 y227 x38_3 a2 x31_2 (y223.length : Int) x38_3 t228 (t228.length : Int) 0 a0_0 a0_1)) = some r := by first | (rw [hy227]; with_reducible exact H) | (have H2_ := (Option.bind_some _ _).symm.trans H; rw [hy227]; with_reducible exact H2_) | (have H2_ := (Option.bind_some _ _).symm.trans H; with_reducible exact H2_) | with_reducible exact H | (rw [hy227]; exact H) | exact H
                                  have Ny227 := Aside0.mk hy227
                                  clear hy227
                                  replace H := Option.bind_eq_some_iff.mp H
                                  obtain ⟨t228, A320, H⟩ := H
                                  replace H : (impl_Coin_table.l3 k3 a1 x7_2 y227 x38_3 a2 x31_2 (y223.length : Int) x38_3 t228 (t228.length : Int) 0 a0_0 a0_1) = some r := H
                                  have A32 := Aside0.mk A320
                                  clear A320
                                  have H' := Aside0.mk H
                                  clear H
                                  obtain ⟨Ao33, co33, eo33⟩ := Kd.R_slice HO_7.out
                                  subst eo33
                                  have p226 : 0 ≤ (x38_3 : Int) := of_decide_eq_true (by first | (with_reducible assumption) | assumption)
                                  have q226 : x38_3 < (x7_2.length : Int) := of_decide_eq_true (by first | (with_reducible assumption) | assumption)
                                  obtain ⟨ad226, e226, hx226_0, hx226_1⟩ := at_T56 (Kd.R_reads' HO_7.out).2.2 x38_3 p226 q226
                                  cases e226
                                  replace p226 := eq_true p226
                                  replace q226 := eq_true q226
                                  have p31 : 0 ≤ (x38_3 : Int) := of_decide_eq_true (by first | (with_reducible assumption) | assumption)
                                  have q31 : (x38_3 : Int) < ((x9_3.length : Int) : Int) := of_decide_eq_true (by first | (with_reducible assumption) | assumption)
                                  obtain ⟨go31, co31, eo31, gb31, gl31, cl31, HG31⟩ := Kd.R_form HO_9.out (by omega)
                                  (first | cases eo31 | (injection eo31 with ea_ en_ ec_; (first | subst ea_ | (injection ea_ with ea_; subst ea_)); subst ec_; clear en_))
                                  have GB31 := Aside0.mk gb31
                                  have GG31 := Aside0.mk HG31
                                  clear gb31 gl31 HG31
                                  obtain ⟨ce31, hcl31, hM31, hcc31, hfr31⟩ := Kd.R_elem HO_9.out z56 (x38_3 : Int) p31 q31
                                  obtain rfl := k56_openM hM31
                                  have hx31_0 : wr.cell? ⟨go31, (x38_3 : Int).toNat * 2, none⟩ = some (.int .i64 ((rd_T56 x9_3 x38_3).f0)) := hcc31 0 _ rfl
                                  have hx31_1 : wr.cell? ⟨go31, (x38_3 : Int).toNat * 2 + 1, none⟩ = some (.int .i64 ((rd_T56 x9_3 x38_3).f1)) := hcc31 1 _ rfl
                                  have hf31_0 : wr.frozen? ⟨go31, (x38_3 : Int).toNat * 2, none⟩ = false := hfr31 0
                                  have hf31_1 : wr.frozen? ⟨go31, (x38_3 : Int).toNat * 2 + 1, none⟩ = false := hfr31 1
                                  clear hcl31 hcc31 hfr31 hM31
                                  replace p31 := eq_true p31
                                  replace q31 := eq_true q31
                                  have HX34 := Aside0.mk (show Kd.R k56 56 wr w.heap.size (fun k_ => some k_ ≠ (.slice (some ad226) x7_2.length co33 : Value).ownBlock) (.slice (some ⟨go31, 0, none⟩) x9_3.length co26) x9_3 from (by (with_reducible repeat (first | apply Kd.R_alloc | apply Kd.R_drewN | apply Kd.R_drew)); exact HO_9.out))
                                  obtain ⟨ce34, hcl34, hM34, hcc34, hfr34⟩ := Kd.R_elem HX34.out z56 (x38_3 : Int) (of_decide_eq_true (by first | (with_reducible assumption) | assumption)) (by have h_ : (x38_3 : Int) < ((x9_3.length : Int) : Int) := of_decide_eq_true (by first | (with_reducible assumption) | assumption); first | exact h_ | (have e_ := (Kd.R_reads' HO_9.out).1; omega) | simpa using h_)
                                  obtain rfl := k56_openM hM34
                                  have HP34 := Kd.R_seg HX34.out (x38_3 : Int) (of_decide_eq_true (by first | (with_reducible assumption) | assumption)) (by have h_ : (x38_3 : Int) < ((x9_3.length : Int) : Int) := of_decide_eq_true (by first | (with_reducible assumption) | assumption); first | exact h_ | (have e_ := (Kd.R_reads' HO_9.out).1; omega) | simpa using h_) (seg := [.int .i64 ((rd_T56 x7_2 x38_3).f0), .int .i64 ((rd_T56 x7_2 x38_3).f1)]) (j := 0) hcl34 hcc34 (show 2 ≤ 2 from by decide) (x' := (⟨(rd_T56 x7_2 x38_3).f0, (rd_T56 x7_2 x38_3).f1⟩ : S56)) (k56_mkM _ _ _ (⟨(rd_T56 x7_2 x38_3).f0, (rd_T56 x7_2 x38_3).f1⟩ : S56) ) (fun _ hk => hk)
                                  have hx34_0 := hcc34 0 _ rfl
                                  (try simp only [show (k56).sz = 2 from rfl, Nat.mul_one, Nat.add_zero] at hx34_0)
                                  have hf34_0 := hfr34 0
                                  (try simp only [show (k56).sz = 2 from rfl, Nat.mul_one, Nat.add_zero] at hf34_0)
                                  have hx34_1 := hcc34 1 _ rfl
                                  (try simp only [show (k56).sz = 2 from rfl, Nat.mul_one, Nat.add_zero] at hx34_1)
                                  have hf34_1 := hfr34 1
                                  (try simp only [show (k56).sz = 2 from rfl, Nat.mul_one, Nat.add_zero] at hf34_1)
                                  clear hcl34 hcc34 hfr34 hM34
                                  go_wp2_with (first | ((with_reducible refine gate_store (t := 56) (p := 47) rfl ?_); refine store_event (t := 56) (p := 47) (v := ?vo_w35) (w1 := ((wr.setCell ⟨go31, (x38_3 : Int).toNat * 2, none⟩ (.int .i64 ((rd_T56 x7_2 x38_3).f0))).setCell ⟨go31, (x38_3 : Int).toNat * 2 + 1, none⟩ (.int .i64 ((rd_T56 x7_2 x38_3).f1)))) ?hg ?ho ?hn ?hr ?_; (case ho => rfl); (case hg => rfl); (case hn => rfl); (case hr => first | (go_simp; done) | (go_simp; rfl)); intro w35 hw; have hg : wr.grownBy w35 (some go31) := (by rw [hw]; exact HP34.2); have hp_ : Kd.R k56 56 w35 w.heap.size (fun k_ => some k_ ≠ (.slice (some ad226) x7_2.length co33 : Value).ownBlock) (.slice (some ⟨go31, 0, none⟩) x9_3.length co26) y227 := (by rw [hw, Ny227.out]; exact HP34.1); clear HP34; have n0_ := Aside0.mk (Kd.R_after (v := (.slice (some ⟨go31, 0, none⟩) x9_3.length co26)) (v1 := (.slice (some ⟨go31, 0, none⟩) x9_3.length co26)) (ok := (fun _ => True)) (by (with_reducible repeat (first | apply Kd.R_alloc | apply Kd.R_drewN | apply Kd.R_drew)); exact Kd.R_mono HO_7.out (fun _ hk => ⟨trivial, hk⟩)) hg (.inl rfl)); have n1_ := Aside0.mk (hp_); have n2_ := Aside0.mk (blk_grown (g := gb216) (o := .cells #[.int .i64 a0_0, .int .i64 a0_1] 33 (0, 0)) (by (with_reducible repeat (first | refine blk_drewN ?_ _ | refine blk_drew ?_ | refine blk_alloc ?_ _)); exact BK216.out) hg (Kd.R_ne HO_9.out BK216.out (by decide))); have n3_ := Aside0.mk ((by rw [hw]; exact below_set (below_set (HB.out) GB31.out) GB31.out : Below w.heap.size w w35)); clear HO_7; clear HO_9; clear BK216; clear HB; have HO_7 := n0_; have HO_9 := n1_; have BK216 := n2_; have HB := n3_; clear n0_ n1_ n2_ n3_; clear hg hw hp_) | ((with_reducible refine gate_callee (f := 72) rfl ?_); refine goesL_ (some 51) rfl rfl Try.func72 (by kernel_rfl) rfl #[.agg #[.int .i64 x38_3, .int .i64 a1]] rfl (by (try simp only [List.map_toArray, List.map_cons, List.map_nil]); first | done | rfl | (simp only [List.length_drop, List.length_take]; rfl)) ?_; (with_reducible refine (impl_freely.calls k3 x38_3 a1 t228 _ A32.out).mono ?_); rintro e w36 ⟨v229, rfl, ho0, hb⟩; refine ⟨_, rfl, ?_⟩; have n0_ := Aside0.mk (Kd.R_below (by (with_reducible repeat (first | apply Kd.R_alloc | apply Kd.R_drewN | apply Kd.R_drew)); exact HO_7.out) hb); have n1_ := Aside0.mk (Kd.R_below (by (with_reducible repeat (first | apply Kd.R_alloc | apply Kd.R_drewN | apply Kd.R_drew)); exact HO_9.out) hb); have n2_ := Aside0.mk (Kd.R_lower ho0 (below_size (by repeat (first | (with_reducible first | exact HB.out | apply below_alloc | apply pw_below_drewN | apply below_drew1 | refine below_set ?_ GE216.out) | exact HB.out)))); have n3_ := Aside0.mk (blk_below (g := gb216) (o := .cells #[.int .i64 a0_0, .int .i64 a0_1] 33 (0, 0)) (by (with_reducible repeat (first | refine blk_drewN ?_ _ | refine blk_drew ?_ | refine blk_alloc ?_ _)); exact BK216.out) hb); have n4_ := Aside0.mk (below_step (by repeat (first | (with_reducible first | exact HB.out | apply below_alloc | apply pw_below_drewN | apply below_drew1 | refine below_set ?_ GE216.out) | exact HB.out)) hb); clear HO_7; clear HO_9; clear BK216; clear HB; have HO_7 := n0_; have HO_9 := n1_; have HO230 := n2_; have BK216 := n3_; have HB := n4_; clear n0_ n1_ n2_ n3_ n4_; (try clear hb); (try clear hb2); (try clear hk); (try clear hi); (try clear ho0); obtain ⟨Ao37, co37, eo37⟩ := Kd.R_slice HO230.out; subst eo37))
                                  go_loopg [53] k3 (fun kq v53 w' => ∃ (x9_4 : List (S56)) (x53_4 : Int), v53 = .int .i64 x53_4 ∧ Aside0 (impl_Coin_table.l3 kq a1 x7_2 x9_4 x38_3 a2 x31_2 (y223.length : Int) x38_3 t228 (t228.length : Int) x53_4 a0_0 a0_1 = some r) ∧ Aside0 (kq ≤ k3) ∧ Aside0 (Kd.R k56 56 w' w.heap.size (fun k_ => some k_ ≠ ((.slice (some ⟨go31, 0, none⟩) x9_3.length co26) : Value).ownBlock) (.slice (some ad226) x7_2.length co33) x7_2) ∧ Aside0 (Kd.R k56 56 w' w.heap.size (fun k_ => some k_ ≠ ((.slice (some ad226) x7_2.length co33) : Value).ownBlock) (.slice (some ⟨go31, 0, none⟩) x9_3.length co26) x9_4) ∧ Aside0 (Kd.R (Kd.int .i64) 3 w' w.heap.size (fun _ => True) (.slice Ao37 t228.length co37) t228) ∧ Aside0 (w'.heap[gb216]? = some (.cells #[.int .i64 a0_0, .int .i64 a0_1] 33 (0, 0))) ∧ Aside0 (Below w.heap.size w w'))
                                  case atStart => exact ⟨(y227), (0), (by first | rfl | (simp; done) | (simp [*]; done)), H', ⟨Nat.le_refl _⟩, ⟨by (try simp only [hl7_1]); (try simp only [hl9_3]); (with_reducible repeat (first | apply Kd.R_alloc | apply Kd.R_drewN | apply Kd.R_drew)); exact Kd.R_mono HO_7.out (fun _ hk => hk.2)⟩, ⟨by (try simp only [hl7_1]); (try simp only [hl9_3]); (with_reducible repeat (first | apply Kd.R_alloc | apply Kd.R_drewN | apply Kd.R_drew)); exact HO_9.out⟩, ⟨by (try simp only [hl7_1]); (try simp only [hl9_3]); (with_reducible repeat (first | apply Kd.R_alloc | apply Kd.R_drewN | apply Kd.R_drew)); exact HO230.out⟩, ⟨by (try simp only [hl7_1]); (try simp only [hl9_3]); (with_reducible repeat (first | refine blk_drewN ?_ _ | refine blk_drew ?_ | refine blk_alloc ?_ _)); exact BK216.out⟩, ⟨by repeat (first | (with_reducible first | exact HB.out | apply below_alloc | apply pw_below_drewN | apply below_drew1 | refine below_set ?_ GE216.out) | exact HB.out)⟩⟩
                                  case round =>
                                    clear H'
                                    try clear c1
                                    try clear p1
                                    try clear q1
                                    try clear hx1
                                    try clear c2
                                    try clear p2
                                    try clear q2
                                    try clear hx2
                                    try clear c3
                                    try clear p3
                                    try clear q3
                                    try clear hx3
                                    try clear hf3
                                    try clear c5
                                    try clear c5b0
                                    try clear c5b1
                                    try clear c6
                                    try clear c6b0
                                    try clear c6b1
                                    try clear p6
                                    try clear c7
                                    try clear c11
                                    try clear c11b0
                                    try clear c11b9
                                    try clear c12
                                    try clear c12b0
                                    try clear c12b1
                                    try clear c12b9
                                    try clear c14
                                    try clear c14b0
                                    try clear c14b9
                                    try clear c15
                                    try clear c15b0
                                    try clear c15b9
                                    try clear c16
                                    try clear p16
                                    try clear q16
                                    try clear hx16
                                    try clear hf16
                                    try clear c18
                                    try clear hx18
                                    try clear hf18
                                    try clear c20
                                    try clear c20b0
                                    try clear c20b9
                                    try clear c22
                                    try clear c22b0
                                    try clear c22b1
                                    try clear p22
                                    try clear q22
                                    try clear hx22
                                    try clear c23
                                    try clear c23b0
                                    try clear c23b1
                                    try clear c27
                                    try clear c27b0
                                    try clear c27b9
                                    try clear c28
                                    try clear c28b0
                                    try clear c28b9
                                    try clear c29
                                    try clear c29b0
                                    try clear c29b9
                                    try clear c30
                                    try clear c30b0
                                    try clear c30b9
                                    try clear c31
                                    try clear p31
                                    try clear q31
                                    try clear hx31
                                    try clear hf31
                                    try clear c34
                                    try clear hx34
                                    try clear hf34
                                    try clear hx16_0
                                    try clear hx16_1
                                    try clear hx18_0
                                    try clear hx18_1
                                    try clear hx226_0
                                    try clear hx226_1
                                    try clear hx31_0
                                    try clear hx31_1
                                    try clear hx34_0
                                    try clear hx34_1
                                    try clear p1
                                    try clear p16
                                    try clear p2
                                    try clear p226
                                    try clear p31
                                    try clear p6
                                    try clear q1
                                    try clear q16
                                    try clear q226
                                    try clear q31
                                    try clear hji21w
                                    try clear hji21
                                    try clear hji4w
                                    try clear hji4
                                    obtain ⟨x9_4, x53_4, rfl, HA, HK4, HO_7, HO_9, HO_51, BK216, HB⟩ := hrel
                                    have hl9_4 := (Kd.R_reads' HO_9.out).1
                                    rw [hl9_4] at HO_9
                                    (try simp only [hl9_4])
                                    (try simp only [hl9_4] at BK216)
                                    (try simp only [hl9_4] at HO_7)
                                    (try simp only [hl9_4] at HO_51)
                                    cases gk with
                                    | zero => exact absurd HA.out (by simp [impl_Coin_table.l3])
                                    | succ k4 =>
                                      have H := HA.out
                                      clear HA
                                      simp only [impl_Coin_table.l3] at H
                                      by_cases c38 : x53_4 < (t228.length : Int)
                                      · rw [if_pos c38] at H
                                        have c38b0 : decide (x53_4 < (t228.length : Int)) = true := decide_eq_true c38
                                        (try (have c38b9 := c38b0; simp only [hl7_1, hl9_3, hl9_4] at c38b9))
                                        clear c38
                                        by_cases c39 : 0 ≤ x53_4
                                        · rw [if_pos c39] at H
                                          have c39b0 : decide (0 ≤ x53_4) = true := decide_eq_true c39
                                          (try (have c39b9 := c39b0; simp only [hl7_1, hl9_3, hl9_4] at c39b9))
                                          clear c39
                                          by_cases c40 : x53_4 < (t228.length : Int)
                                          · rw [if_pos c40] at H
                                            have c40b0 : decide (x53_4 < (t228.length : Int)) = true := decide_eq_true c40
                                            (try (have c40b9 := c40b0; simp only [hl7_1, hl9_3, hl9_4] at c40b9))
                                            clear c40
                                            replace H := Option.bind_eq_some_iff.mp H
                                            obtain ⟨⟨t232, t233⟩, A410, H⟩ := H
                                            replace H : (if 0 ≤ x38_3 then (if x38_3 < (x9_4.length : Int) then ((impl_frac_isMore.f t232 t233 ((rd_T56 x9_4 x38_3).f0) ((rd_T56 x9_4 x38_3).f1)).bind fun t236 => (if t236 = true then (impl_Coin_table.l3 k4 a1 x7_2 (x9_4.set (x38_3 : Int).toNat (⟨t232, t233⟩ : S56)) x38_3 a2 x31_2 (y223.length : Int) x38_3 t228 (t228.length : Int) (wrap64 (x53_4 + 1)) a0_0 a0_1) else (impl_Coin_table.l3 k4 a1 x7_2 x9_4 x38_3 a2 x31_2 (y223.length : Int) x38_3 t228 (t228.length : Int) (wrap64 (x53_4 + 1)) a0_0 a0_1))) else (none)) else (none)) = some r := H
                                            have A41 := Aside0.mk A410
                                            clear A410
                                            by_cases c42 : 0 ≤ x38_3
                                            · rw [if_pos c42] at H
                                              have c42b0 : decide (0 ≤ x38_3) = true := decide_eq_true c42
                                              (try (have c42b9 := c42b0; simp only [hl7_1, hl9_3, hl9_4] at c42b9))
                                              clear c42
                                              by_cases c43 : x38_3 < (x9_4.length : Int)
                                              · rw [if_pos c43] at H
                                                have c43b0 : decide (x38_3 < (x9_4.length : Int)) = true := decide_eq_true c43
                                                (try (have c43b9 := c43b0; simp only [hl7_1, hl9_3, hl9_4] at c43b9))
                                                clear c43
                                                replace H := Option.bind_eq_some_iff.mp H
                                                obtain ⟨t236, A440, H⟩ := H
                                                replace H : (if t236 = true then (impl_Coin_table.l3 k4 a1 x7_2 (x9_4.set (x38_3 : Int).toNat (⟨t232, t233⟩ : S56)) x38_3 a2 x31_2 (y223.length : Int) x38_3 t228 (t228.length : Int) (wrap64 (x53_4 + 1)) a0_0 a0_1) else (impl_Coin_table.l3 k4 a1 x7_2 x9_4 x38_3 a2 x31_2 (y223.length : Int) x38_3 t228 (t228.length : Int) (wrap64 (x53_4 + 1)) a0_0 a0_1)) = some r := H
                                                have A44 := Aside0.mk A440
                                                clear A440
                                                by_cases c45 : t236 = true
                                                · subst c45
                                                  have H1 : (impl_Coin_table.l3 k4 a1 x7_2 (x9_4.set (x38_3 : Int).toNat (⟨t232, t233⟩ : S56)) x38_3 a2 x31_2 (y223.length : Int) x38_3 t228 (t228.length : Int) (wrap64 (x53_4 + 1)) a0_0 a0_1) = some r := by rw [if_pos rfl] at H; exact H
                                                  clear H
                                                  have H := H1
                                                  clear H1
                                                  obtain ⟨y237, hy237⟩ : ∃ y_ : List (S56), y_ = (x9_4.set (x38_3 : Int).toNat (⟨t232, t233⟩ : S56)) := ⟨_, rfl⟩
                                                  replace H : (impl_Coin_table.l3 k4 a1 x7_2 y237 x38_3 a2 x31_2 (y223.length : Int) x38_3 t228 (t228.length : Int) (wrap64 (x53_4 + 1)) a0_0 a0_1) = some r := by first | (rw [hy237]; with_reducible exact H) | (have H2_ := (Option.bind_some _ _).symm.trans H; rw [hy237]; with_reducible exact H2_) | (have H2_ := (Option.bind_some _ _).symm.trans H; with_reducible exact H2_) | with_reducible exact H | (rw [hy237]; exact H) | exact H
                                                  have Ny237 := Aside0.mk hy237
                                                  clear hy237
                                                  have H' := Aside0.mk H
                                                  clear H
                                                  have p231 : 0 ≤ (x53_4 : Int) := of_decide_eq_true (by first | (with_reducible assumption) | assumption)
                                                  have q231 : x53_4 < (t228.length : Int) := of_decide_eq_true (by first | (with_reducible assumption) | assumption)
                                                  obtain ⟨ad231, e231, hx231_0⟩ := Kd.at_int (Kd.R_reads' HO_51.out).2.2 x53_4 p231 q231
                                                  cases e231
                                                  replace p231 := eq_true p231
                                                  replace q231 := eq_true q231
                                                  have hcz47_0 : wr.cell? ⟨gb216, 0, none⟩ = some (.int .i64 a0_0) := (blk_cell BK216.out 0).trans rfl
                                                  have hcz47_1 : wr.cell? ⟨gb216, 1, none⟩ = some (.int .i64 a0_1) := (blk_cell BK216.out 1).trans rfl
                                                  have hfz47_0 := blk_frozen BK216.out 0
                                                  have hfz47_1 := blk_frozen BK216.out 1
                                                  try go_wp2_with (first | ((with_reducible refine gate_callee (f := 73) rfl ?_); refine goesL_ (some 61) rfl rfl Try.func73 (by kernel_rfl) rfl #[.agg #[.int .i64 a0_0, .int .i64 a0_1], .slice (some ad226) x7_2.length co33, .int .i64 x38_3, .int .i64 (rd t228 x53_4)] rfl (by (try simp only [List.map_toArray, List.map_cons, List.map_nil]); first | done | rfl | (simp only [List.length_drop, List.length_take]; rfl)) ?_; (with_reducible refine (impl_Coin_staked.calls k4 a0_0 a0_1 _ _ x7_2 x38_3 (rd t228 x53_4) t232 t233 _ ?side1 ?side2 A41.out).mono ?_); (case side1 => repeat (first | exact (Kd.R_reads' HO_7.out).2.2 | (with_reducible refine Kd.C_alloc ?_ _) | (with_reducible refine Kd.C_drewN ?_ _) | (with_reducible refine Kd.C_drew ?_))); (case side2 => exact (Kd.R_reads' HO_7.out).2.1); rintro e w48 ⟨rfl, hb⟩; refine ⟨_, rfl, ?_⟩; have n0_ := Aside0.mk (Kd.R_below (by (with_reducible repeat (first | apply Kd.R_alloc | apply Kd.R_drewN | apply Kd.R_drew)); exact HO_7.out) hb); have n1_ := Aside0.mk (Kd.R_below (by (with_reducible repeat (first | apply Kd.R_alloc | apply Kd.R_drewN | apply Kd.R_drew)); exact HO_9.out) hb); have n2_ := Aside0.mk (Kd.R_below (by (with_reducible repeat (first | apply Kd.R_alloc | apply Kd.R_drewN | apply Kd.R_drew)); exact HO_51.out) hb); have n3_ := Aside0.mk (blk_below (g := gb216) (o := .cells #[.int .i64 a0_0, .int .i64 a0_1] 33 (0, 0)) (by (with_reducible repeat (first | refine blk_drewN ?_ _ | refine blk_drew ?_ | refine blk_alloc ?_ _)); exact BK216.out) hb); have n4_ := Aside0.mk (below_step (by repeat (first | (with_reducible first | exact HB.out | apply below_alloc | apply pw_below_drewN | apply below_drew1 | refine below_set ?_ GE216.out) | exact HB.out)) hb); clear HO_7; clear HO_9; clear HO_51; clear BK216; clear HB; have HO_7 := n0_; have HO_9 := n1_; have HO_51 := n2_; have BK216 := n3_; have HB := n4_; clear n0_ n1_ n2_ n3_ n4_; (try clear hb); (try clear hb2); (try clear hk); (try clear hi)) | ((with_reducible refine gate_dst (N := 13) rfl ?_); refine box_event ?hg (N := 13) ?hd (cs := #[.int .i64 0, .int .i64 0]) (t := 56) ?hr ?_; (case hd => rfl); (case hg => rfl); (case hr => first | (go_simp; done) | (go_simp; rfl)); intro gb234 hg w49 hbox hb; have n0_ := Aside0.mk (Kd.R_below (Kd.R_elderB (by (with_reducible repeat (first | apply Kd.R_alloc | apply Kd.R_drewN | apply Kd.R_drew)); exact HO_7.out) gb234 (Nat.le_of_eq hg.symm)) hb); have n1_ := Aside0.mk (Kd.R_below (Kd.R_elderB (by (with_reducible repeat (first | apply Kd.R_alloc | apply Kd.R_drewN | apply Kd.R_drew)); exact HO_9.out) gb234 (Nat.le_of_eq hg.symm)) hb); have n2_ := Aside0.mk (Kd.R_below (by (with_reducible repeat (first | apply Kd.R_alloc | apply Kd.R_drewN | apply Kd.R_drew)); exact HO_51.out) hb); have n3_ := Aside0.mk (blk_below (g := gb216) (o := .cells #[.int .i64 a0_0, .int .i64 a0_1] 33 (0, 0)) (by (with_reducible repeat (first | refine blk_drewN ?_ _ | refine blk_drew ?_ | refine blk_alloc ?_ _)); exact BK216.out) hb); have n4_ := Aside0.mk (below_step (by repeat (first | (with_reducible first | exact HB.out | apply below_alloc | apply pw_below_drewN | apply below_drew1 | refine below_set ?_ GE216.out) | exact HB.out)) hb); have n5_ := Aside0.mk (hbox); have n6_ := Aside0.mk ((by rw [hg]; exact (below_size (by repeat (first | (with_reducible first | exact HB.out | apply below_alloc | apply pw_below_drewN | apply below_drew1 | refine below_set ?_ GE216.out) | exact HB.out))) : w.heap.size ≤ gb234)); have n7_ := Aside0.mk ((by rw [hg]; exact (below_size (by repeat (first | (with_reducible first | exact HB.out | apply below_alloc | apply pw_below_drewN | apply below_drew1 | refine below_set ?_ GE216.out) | exact HB.out))) : w.heap.size ≤ gb234)); have n8_ := Aside0.mk ((by rw [hg]; exact Nat.ne_of_lt (blk_lt (g := gb216) (o := .cells #[.int .i64 a0_0, .int .i64 a0_1] 33 (0, 0)) (by (with_reducible repeat (first | refine blk_drewN ?_ _ | refine blk_drew ?_ | refine blk_alloc ?_ _)); exact BK216.out)) : gb216 ≠ gb234)); have n9_ := Aside0.mk ((by rw [hg]; exact Nat.ne_of_gt (blk_lt (g := gb216) (o := .cells #[.int .i64 a0_0, .int .i64 a0_1] 33 (0, 0)) (by (with_reducible repeat (first | refine blk_drewN ?_ _ | refine blk_drew ?_ | refine blk_alloc ?_ _)); exact BK216.out)) : gb234 ≠ gb216)); clear HO_7; clear HO_9; clear HO_51; clear BK216; clear HB; have HO_7 := n0_; have HO_9 := n1_; have HO_51 := n2_; have BK216 := n3_; have HB := n4_; have BK234 := n5_; have GW234 := n6_; have GE234 := n7_; have NB216_234 := n8_; have NB234_216 := n9_; clear n0_ n1_ n2_ n3_ n4_ n5_ n6_ n7_ n8_ n9_; clear hb hbox hg; have hnb50 := NB234_216.out; have hnc50 := NB216_234.out; have hcz51_0 : w49.cell? ⟨gb234, 0, none⟩ = some (.int .i64 0) := (blk_cell BK234.out 0).trans rfl; have hcz51_1 : w49.cell? ⟨gb234, 1, none⟩ = some (.int .i64 0) := (blk_cell BK234.out 1).trans rfl; have hfz51_0 := blk_frozen BK234.out 0; have hfz51_1 := blk_frozen BK234.out 1))
                                                  have n0_ : Aside0 (Kd.R k56 56 ((w49.setCell ⟨gb234, 0, none⟩ (.int .i64 t232)).setCell ⟨gb234, 1, none⟩ (.int .i64 t233)) w.heap.size (fun k_ => some k_ ≠ (.slice (some ⟨go31, 0, none⟩) x9_4.length co26 : Value).ownBlock ∧ k_ ≠ gb234) (.slice (some ad226) x7_2.length co33) x7_2) := ⟨by (with_reducible repeat (first | apply Kd.R_alloc | apply Kd.R_drewN | apply Kd.R_drew)); exact Kd.R_mono (Kd.R_far (p := ⟨gb234, 1, none⟩) (Kd.R_far (p := ⟨gb234, 0, none⟩) (Kd.R_mono HO_7.out (fun k_ hk => (⟨hk, hk.2⟩ : _ ∧ k_ ≠ gb234))) (fun _ hk => hk.2) (.int .i64 t232)) (fun _ hk => hk.2) (.int .i64 t233)) (fun _ hk => ⟨hk.1.1, hk.1.2⟩)⟩
                                                  have n1_ : Aside0 (Kd.R k56 56 ((w49.setCell ⟨gb234, 0, none⟩ (.int .i64 t232)).setCell ⟨gb234, 1, none⟩ (.int .i64 t233)) w.heap.size (fun k_ => some k_ ≠ (.slice (some ad226) x7_2.length co33 : Value).ownBlock ∧ k_ ≠ gb234) (.slice (some ⟨go31, 0, none⟩) x9_4.length co26) x9_4) := ⟨by (with_reducible repeat (first | apply Kd.R_alloc | apply Kd.R_drewN | apply Kd.R_drew)); exact Kd.R_mono (Kd.R_far (p := ⟨gb234, 1, none⟩) (Kd.R_far (p := ⟨gb234, 0, none⟩) (Kd.R_mono HO_9.out (fun k_ hk => (⟨hk, hk.2⟩ : _ ∧ k_ ≠ gb234))) (fun _ hk => hk.2) (.int .i64 t232)) (fun _ hk => hk.2) (.int .i64 t233)) (fun _ hk => ⟨hk.1.1, hk.1.2⟩)⟩
                                                  have n2_ : Aside0 (Kd.R (Kd.int .i64) 3 ((w49.setCell ⟨gb234, 0, none⟩ (.int .i64 t232)).setCell ⟨gb234, 1, none⟩ (.int .i64 t233)) w.heap.size (fun _ => True) (.slice (some ad231) t228.length co37) t228) := ⟨by (with_reducible repeat (first | apply Kd.R_alloc | apply Kd.R_drewN | apply Kd.R_drew)); exact Kd.R_mono (Kd.R_far (p := ⟨gb234, 1, none⟩) (Kd.R_far (p := ⟨gb234, 0, none⟩) (Kd.R_types HO_51.out BK234.out (by decide)) (fun _ hk => hk.2) (.int .i64 t232)) (fun _ hk => hk.2) (.int .i64 t233)) (fun _ hk => trivial)⟩
                                                  have n3_ : Aside0 (((w49.setCell ⟨gb234, 0, none⟩ (.int .i64 t232)).setCell ⟨gb234, 1, none⟩ (.int .i64 t233)).heap[gb216]? = some (.cells #[.int .i64 a0_0, .int .i64 a0_1] 33 (0, 0))) := ⟨by (with_reducible repeat (first | refine blk_drewN ?_ _ | refine blk_drew ?_ | refine blk_alloc ?_ _)); refine blk_far ?_ NB216_234.out _; (with_reducible repeat (first | refine blk_drewN ?_ _ | refine blk_drew ?_ | refine blk_alloc ?_ _)); refine blk_far ?_ NB216_234.out _; (with_reducible repeat (first | refine blk_drewN ?_ _ | refine blk_drew ?_ | refine blk_alloc ?_ _)); exact BK216.out⟩
                                                  have n4_ : Aside0 (((w49.setCell ⟨gb234, 0, none⟩ (.int .i64 t232)).setCell ⟨gb234, 1, none⟩ (.int .i64 t233)).heap[gb234]? = some (.cells #[.int .i64 t232, .int .i64 t233] 56 (0, 0))) := ⟨by (with_reducible repeat (first | refine blk_drewN ?_ _ | refine blk_drew ?_ | refine blk_alloc ?_ _)); refine blk_put (cs := #[.int .i64 t232, .int .i64 0]) ?_ 1 _ rfl; (with_reducible repeat (first | refine blk_drewN ?_ _ | refine blk_drew ?_ | refine blk_alloc ?_ _)); refine blk_put (cs := #[.int .i64 0, .int .i64 0]) ?_ 0 _ rfl; (with_reducible repeat (first | refine blk_drewN ?_ _ | refine blk_drew ?_ | refine blk_alloc ?_ _)); exact BK234.out⟩
                                                  have n5_ : Aside0 (Below w.heap.size w ((w49.setCell ⟨gb234, 0, none⟩ (.int .i64 t232)).setCell ⟨gb234, 1, none⟩ (.int .i64 t233))) := ⟨by repeat (first | (with_reducible first | exact HB.out | apply below_alloc | apply pw_below_drewN | apply below_drew1 | refine below_set ?_ GE216.out | refine below_set ?_ GE234.out) | exact HB.out)⟩
                                                  (try clear HO_7)
                                                  (try clear HO_9)
                                                  (try clear HO_51)
                                                  (try clear BK216)
                                                  (try clear BK234)
                                                  (try clear HB)
                                                  generalize ((w49.setCell ⟨gb234, 0, none⟩ (.int .i64 t232)).setCell ⟨gb234, 1, none⟩ (.int .i64 t233)) = w52 at n0_ n1_ n2_ n3_ n4_ n5_ ⊢
                                                  have HO_7 := n0_
                                                  have HO_9 := n1_
                                                  have HO_51 := n2_
                                                  have BK216 := n3_
                                                  have BK234 := n4_
                                                  have HB := n5_
                                                  clear n0_ n1_ n2_ n3_ n4_ n5_
                                                  have n0_ := Aside0.mk (Kd.R_drew HO_7.out)
                                                  have n1_ := Aside0.mk (Kd.R_drew HO_9.out)
                                                  have n2_ := Aside0.mk (Kd.R_drew HO_51.out)
                                                  have n3_ := Aside0.mk (blk_drew BK216.out)
                                                  have n4_ := Aside0.mk (blk_drew BK234.out)
                                                  have n5_ := Aside0.mk (below_drew1 HB.out)
                                                  clear HO_7
                                                  clear HO_9
                                                  clear HO_51
                                                  clear BK216
                                                  clear BK234
                                                  clear HB
                                                  have HO_7 := n0_
                                                  have HO_9 := n1_
                                                  have HO_51 := n2_
                                                  have BK216 := n3_
                                                  have BK234 := n4_
                                                  have HB := n5_
                                                  clear n0_ n1_ n2_ n3_ n4_ n5_
                                                  have p235 : 0 ≤ (x38_3 : Int) := of_decide_eq_true (by first | (with_reducible assumption) | assumption)
                                                  have q235 : x38_3 < (x9_4.length : Int) := of_decide_eq_true (by first | (with_reducible assumption) | assumption)
                                                  obtain ⟨ad235, e235, hx235_0, hx235_1⟩ := at_T56 (Kd.R_reads' HO_9.out).2.2 x38_3 p235 q235
                                                  obtain rfl : (⟨go31, 0, none⟩ : Addr) = ad235 := (by injection e235)
                                                  (first | simp only [add_plain] at hx235_0 | simp only [add_at] at hx235_0 | simp only [Addr.add, Nat.zero_add] at hx235_0 | skip)
                                                  (first | simp only [add_plain] at hx235_1 | simp only [add_at] at hx235_1 | simp only [Addr.add, Nat.zero_add] at hx235_1 | skip)
                                                  replace p235 := eq_true p235
                                                  replace q235 := eq_true q235
                                                  refine start_ (n := 6) (S := fun w' => w'.cell? ⟨gb234, 0, none⟩ = some (.int .i64 t232) ∧ w'.cell? ⟨gb234, 1, none⟩ = some (.int .i64 t233) ∧ w'.cell? ⟨go31, (x38_3).toNat * 2, none⟩ = some (.int .i64 ((rd_T56 x9_4 x38_3).f0)) ∧ w'.cell? ⟨go31, (x38_3).toNat * 2 + 1, none⟩ = some (.int .i64 ((rd_T56 x9_4 x38_3).f1))) (ds := []) #[false, false, false, false, false, false] (by kernel_rfl) rfl rfl ⟨(blk_cell BK234.out 0).trans rfl, (blk_cell BK234.out 1).trans rfl, hx235_0, hx235_1⟩ (fun hHeld => ?_)
                                                  generalize w52.drew = w53 at HO_7 HO_9 HO_51 BK216 BK234 HB hx235_0 hx235_1 hHeld ⊢
                                                  refine pure_ (i := 1) (N := some 63) (v := ?_) (a' := ?_) #[false, true, false, false, false, false] rfl rfl (by kernel_rfl) (fun _ _ _ h => h) (Or.inl ⟨by rfl, ?_⟩) ?_ ?_
                                                  rotate_left
                                                  · intro w'
                                                    go_simp
                                                    with_reducible rfl
                                                  rotate_left
                                                  · simp only [Act.put, List.setIfInBounds_toArray, List.set_cons_zero, List.set_cons_succ, i64_w, i32_w]
                                                    rfl
                                                  refine pure_ (i := 2) (N := some 64) (v := ?_) (a' := ?_) #[false, true, true, false, false, false] rfl rfl (by kernel_rfl) (fun _ _ _ h => h) (Or.inl ⟨by rfl, ?_⟩) ?_ ?_
                                                  rotate_left
                                                  · intro w'
                                                    go_simp
                                                    with_reducible rfl
                                                  rotate_left
                                                  · simp only [Act.put, List.setIfInBounds_toArray, List.set_cons_zero, List.set_cons_succ, i64_w, i32_w]
                                                    rfl
                                                  refine pure_ (i := 3) (N := some 65) (v := ?_) (a' := ?_) #[false, true, true, true, false, false] rfl rfl (by kernel_rfl) (fun _ _ _ h => h) (Or.inl ⟨by rfl, ?_⟩) ?_ ?_
                                                  rotate_left
                                                  · intro w'
                                                    go_simp
                                                    with_reducible rfl
                                                  rotate_left
                                                  · simp only [Act.put, List.setIfInBounds_toArray, List.set_cons_zero, List.set_cons_succ, i64_w, i32_w]
                                                    rfl
                                                  refine take_ (i := 0) (N := some 62) (v := ?_) (a' := ?_) #[true, true, true, true, false, false] rfl rfl (by kernel_rfl) (fun _ _ _ h => h) (Or.inl ⟨by rfl, ?_⟩) hHeld ?_ ?_
                                                  rotate_left
                                                  · rintro w' ⟨s0, s1, s2, s3⟩
                                                    go_simp
                                                    with_reducible rfl
                                                  rotate_left
                                                  · simp only [Act.put, List.setIfInBounds_toArray, List.set_cons_zero, List.set_cons_succ, i64_w, i32_w]
                                                    rfl
                                                  refine take_ (i := 4) (N := some 66) (v := ?_) (a' := ?_) #[true, true, true, true, true, false] rfl rfl (by kernel_rfl) (fun _ _ _ h => h) (Or.inl ⟨by rfl, ?_⟩) hHeld ?_ ?_
                                                  rotate_left
                                                  · rintro w' ⟨s0, s1, s2, s3⟩
                                                    go_simp
                                                    with_reducible rfl
                                                  rotate_left
                                                  · simp only [Act.put, List.setIfInBounds_toArray, List.set_cons_zero, List.set_cons_succ, i64_w, i32_w]
                                                    rfl
                                                  refine one_ (i := 5) (N := some 67) #[true, true, true, true, true, true] rfl rfl (by kernel_rfl) (by decide) (fun K hK => ?_)
                                                  refine goes_ Try.func80 (by kernel_rfl) rfl #[.agg #[.int .i64 t232, .int .i64 t233], .agg #[.int .i64 ((rd_T56 x9_4 x38_3).f0), .int .i64 ((rd_T56 x9_4 x38_3).f1)]] (by rfl) rfl rfl (by (try simp only [List.map_toArray, List.map_cons, List.map_nil]); first | done | rfl | (simp only [List.length_drop, List.length_take]; rfl)) ?_
                                                  with_reducible refine (impl_frac_isMore.calls t232 t233 ((rd_T56 x9_4 x38_3).f0) ((rd_T56 x9_4 x38_3).f1) true _ A44.out).mono ?_
                                                  rintro e w54 ⟨rfl, hb⟩
                                                  have HS2_ := (hb.cell (World.block_lt_of_cell? _ _ (hHeld.2.2.1))).trans (hHeld.2.2.1)
                                                  have HS3_ := (hb.cell (World.block_lt_of_cell? _ _ (hHeld.2.2.2))).trans (hHeld.2.2.2)
                                                  refine ⟨_, rfl, ?_⟩
                                                  have n0_ := Aside0.mk (Kd.R_below (by (with_reducible repeat (first | apply Kd.R_alloc | apply Kd.R_drewN | apply Kd.R_drew)); exact HO_7.out) hb)
                                                  have n1_ := Aside0.mk (Kd.R_below (by (with_reducible repeat (first | apply Kd.R_alloc | apply Kd.R_drewN | apply Kd.R_drew)); exact HO_9.out) hb)
                                                  have n2_ := Aside0.mk (Kd.R_below (by (with_reducible repeat (first | apply Kd.R_alloc | apply Kd.R_drewN | apply Kd.R_drew)); exact HO_51.out) hb)
                                                  have n3_ := Aside0.mk (blk_below (g := gb216) (o := .cells #[.int .i64 a0_0, .int .i64 a0_1] 33 (0, 0)) (by (with_reducible repeat (first | refine blk_drewN ?_ _ | refine blk_drew ?_ | refine blk_alloc ?_ _)); exact BK216.out) hb)
                                                  have n4_ := Aside0.mk (blk_below (g := gb234) (o := .cells #[.int .i64 t232, .int .i64 t233] 56 (0, 0)) (by (with_reducible repeat (first | refine blk_drewN ?_ _ | refine blk_drew ?_ | refine blk_alloc ?_ _)); exact BK234.out) hb)
                                                  have n5_ := Aside0.mk (below_step (by repeat (first | (with_reducible first | exact HB.out | apply below_alloc | apply pw_below_drewN | apply below_drew1 | refine below_set ?_ GE216.out | refine below_set ?_ GE234.out) | exact HB.out)) hb)
                                                  clear HO_7
                                                  clear HO_9
                                                  clear HO_51
                                                  clear BK216
                                                  clear BK234
                                                  clear HB
                                                  have HO_7 := n0_
                                                  have HO_9 := n1_
                                                  have HO_51 := n2_
                                                  have BK216 := n3_
                                                  have BK234 := n4_
                                                  have HB := n5_
                                                  clear n0_ n1_ n2_ n3_ n4_ n5_
                                                  (try clear hb)
                                                  (try clear hb2)
                                                  (try clear hk)
                                                  (try clear hi)
                                                  refine hK.out _ _ ⟨(blk_cell BK234.out 0).trans rfl, (blk_cell BK234.out 1).trans rfl, HS2_, HS3_⟩ (fun hHeld => ?_)
                                                  clear hK K
                                                  refine norm_ (a' := ?_) ?_ ?_
                                                  rotate_left
                                                  · show Act.put _ (some 67) _ = _
                                                    simp only [Act.put, List.setIfInBounds_toArray, List.set_cons_zero, List.set_cons_succ, i64_w, i32_w]
                                                    rfl
                                                  refine done_ (by kernel_rfl) ?_
                                                  have hcz55_0 : w54.cell? ⟨gb234, 0, none⟩ = some (.int .i64 t232) := (blk_cell BK234.out 0).trans rfl
                                                  have hcz55_1 : w54.cell? ⟨gb234, 1, none⟩ = some (.int .i64 t233) := (blk_cell BK234.out 1).trans rfl
                                                  have hfz55_0 := blk_frozen BK234.out 0
                                                  have hfz55_1 := blk_frozen BK234.out 1
                                                  have p46 : 0 ≤ (x38_3 : Int) := of_decide_eq_true (by first | (with_reducible assumption) | assumption)
                                                  have q46 : (x38_3 : Int) < ((x9_4.length : Int) : Int) := of_decide_eq_true (by first | (with_reducible assumption) | assumption)
                                                  obtain ⟨ce46, hcl46, hM46, hcc46, hfr46⟩ := Kd.R_elem HO_9.out z56 (x38_3 : Int) p46 q46
                                                  obtain rfl := k56_openM hM46
                                                  have hx46_0 : w54.cell? ⟨go31, (x38_3 : Int).toNat * 2, none⟩ = some (.int .i64 ((rd_T56 x9_4 x38_3).f0)) := hcc46 0 _ rfl
                                                  have hx46_1 : w54.cell? ⟨go31, (x38_3 : Int).toNat * 2 + 1, none⟩ = some (.int .i64 ((rd_T56 x9_4 x38_3).f1)) := hcc46 1 _ rfl
                                                  have hf46_0 : w54.frozen? ⟨go31, (x38_3 : Int).toNat * 2, none⟩ = false := hfr46 0
                                                  have hf46_1 : w54.frozen? ⟨go31, (x38_3 : Int).toNat * 2 + 1, none⟩ = false := hfr46 1
                                                  clear hcl46 hcc46 hfr46 hM46
                                                  replace p46 := eq_true p46
                                                  replace q46 := eq_true q46
                                                  have HX56 := Aside0.mk (show Kd.R k56 56 w54 w.heap.size (fun k_ => some k_ ≠ (.slice (some ad226) x7_2.length co33 : Value).ownBlock ∧ k_ ≠ gb234) (.slice (some ⟨go31, 0, none⟩) x9_4.length co26) x9_4 from (by (with_reducible repeat (first | apply Kd.R_alloc | apply Kd.R_drewN | apply Kd.R_drew)); exact HO_9.out))
                                                  obtain ⟨ce56, hcl56, hM56, hcc56, hfr56⟩ := Kd.R_elem HX56.out z56 (x38_3 : Int) (of_decide_eq_true (by first | (with_reducible assumption) | assumption)) (by have h_ : (x38_3 : Int) < ((x9_4.length : Int) : Int) := of_decide_eq_true (by first | (with_reducible assumption) | assumption); first | exact h_ | (have e_ := (Kd.R_reads' HO_9.out).1; omega) | simpa using h_)
                                                  obtain rfl := k56_openM hM56
                                                  have HP56 := Kd.R_seg HX56.out (x38_3 : Int) (of_decide_eq_true (by first | (with_reducible assumption) | assumption)) (by have h_ : (x38_3 : Int) < ((x9_4.length : Int) : Int) := of_decide_eq_true (by first | (with_reducible assumption) | assumption); first | exact h_ | (have e_ := (Kd.R_reads' HO_9.out).1; omega) | simpa using h_) (seg := [.int .i64 t232, .int .i64 t233]) (j := 0) hcl56 hcc56 (show 2 ≤ 2 from by decide) (x' := (⟨t232, t233⟩ : S56)) (k56_mkM _ _ _ (⟨t232, t233⟩ : S56) ) (fun _ hk => hk)
                                                  have hx56_0 := hcc56 0 _ rfl
                                                  (try simp only [show (k56).sz = 2 from rfl, Nat.mul_one, Nat.add_zero] at hx56_0)
                                                  have hf56_0 := hfr56 0
                                                  (try simp only [show (k56).sz = 2 from rfl, Nat.mul_one, Nat.add_zero] at hf56_0)
                                                  have hx56_1 := hcc56 1 _ rfl
                                                  (try simp only [show (k56).sz = 2 from rfl, Nat.mul_one, Nat.add_zero] at hx56_1)
                                                  have hf56_1 := hfr56 1
                                                  (try simp only [show (k56).sz = 2 from rfl, Nat.mul_one, Nat.add_zero] at hf56_1)
                                                  clear hcl56 hcc56 hfr56 hM56
                                                  try go_wp2_with (first | ((with_reducible refine gate_store (t := 56) (p := 71) rfl ?_); refine store_event (t := 56) (p := 71) (v := ?vo_w57) (w1 := ((w54.setCell ⟨go31, (x38_3 : Int).toNat * 2, none⟩ (.int .i64 t232)).setCell ⟨go31, (x38_3 : Int).toNat * 2 + 1, none⟩ (.int .i64 t233))) ?hg ?ho ?hn ?hr ?_; (case ho => rfl); (case hg => rfl); (case hn => rfl); (case hr => first | (go_simp; done) | (go_simp; rfl)); intro w57 hw; have hg : w54.grownBy w57 (some go31) := (by rw [hw]; exact HP56.2); have hp_ : Kd.R k56 56 w57 w.heap.size (fun k_ => some k_ ≠ (.slice (some ad226) x7_2.length co33 : Value).ownBlock ∧ k_ ≠ gb234) (.slice (some ⟨go31, 0, none⟩) x9_4.length co26) y237 := (by rw [hw, Ny237.out]; exact HP56.1); clear HP56; have n0_ := Aside0.mk (Kd.R_after (v := (.slice (some ⟨go31, 0, none⟩) x9_4.length co26)) (v1 := (.slice (some ⟨go31, 0, none⟩) x9_4.length co26)) (ok := (fun k_ => k_ ≠ gb234)) (by (with_reducible repeat (first | apply Kd.R_alloc | apply Kd.R_drewN | apply Kd.R_drew)); exact Kd.R_mono HO_7.out (fun _ hk => ⟨hk.2, hk.1⟩)) hg (.inl rfl)); have n1_ := Aside0.mk (hp_); have n2_ := Aside0.mk (Kd.R_over' (v := (.slice (some ⟨go31, 0, none⟩) x9_4.length co26)) (by (with_reducible repeat (first | apply Kd.R_alloc | apply Kd.R_drewN | apply Kd.R_drew)); exact HO_51.out) (Kd.R_typed HO_9.out) (by decide) hg); have n3_ := Aside0.mk (blk_grown (g := gb216) (o := .cells #[.int .i64 a0_0, .int .i64 a0_1] 33 (0, 0)) (by (with_reducible repeat (first | refine blk_drewN ?_ _ | refine blk_drew ?_ | refine blk_alloc ?_ _)); exact BK216.out) hg (Kd.R_ne HO_9.out BK216.out (by decide))); have n4_ := Aside0.mk (blk_grown (g := gb234) (o := .cells #[.int .i64 t232, .int .i64 t233] 56 (0, 0)) (by (with_reducible repeat (first | refine blk_drewN ?_ _ | refine blk_drew ?_ | refine blk_alloc ?_ _)); exact BK234.out) hg (Kd.R_away HO_9.out (fun _ hk => hk.2))); have n5_ := Aside0.mk ((by rw [hw]; exact below_set (below_set (HB.out) GB31.out) GB31.out : Below w.heap.size w w57)); clear HO_7; clear HO_9; clear HO_51; clear BK216; clear BK234; clear HB; have HO_7 := n0_; have HO_9 := n1_; have HO_51 := n2_; have BK216 := n3_; have BK234 := n4_; have HB := n5_; clear n0_ n1_ n2_ n3_ n4_ n5_; clear hg hw hp_))
                                                  (try simp only [← hl9_4])
                                                  go_roundg k4
                                                  case measure => have := HK1.out; have := HK2.out; have := HK3.out; have := HK4.out; omega
                                                  case rel => exact ⟨(y237), (wrap64 (x53_4 + 1)), (by first | rfl | (simp; done) | (simp [*]; done)), H', ⟨by have := HK1.out; have := HK2.out; have := HK3.out; have := HK4.out; omega⟩, ⟨by (try simp only [hl7_1]); (try simp only [hl9_3]); (try simp only [hl9_4]); (with_reducible repeat (first | apply Kd.R_alloc | apply Kd.R_drewN | apply Kd.R_drew)); exact Kd.R_mono HO_7.out (fun _ hk => hk.2)⟩, ⟨by (try simp only [hl7_1]); (try simp only [hl9_3]); (try simp only [hl9_4]); (with_reducible repeat (first | apply Kd.R_alloc | apply Kd.R_drewN | apply Kd.R_drew)); exact Kd.R_mono HO_9.out (fun _ hk => hk.1)⟩, ⟨by (try simp only [hl7_1]); (try simp only [hl9_3]); (try simp only [hl9_4]); (with_reducible repeat (first | apply Kd.R_alloc | apply Kd.R_drewN | apply Kd.R_drew)); exact HO_51.out⟩, ⟨by (try simp only [hl7_1]); (try simp only [hl9_3]); (try simp only [hl9_4]); (with_reducible repeat (first | refine blk_drewN ?_ _ | refine blk_drew ?_ | refine blk_alloc ?_ _)); exact BK216.out⟩, ⟨by repeat (first | (with_reducible first | exact HB.out | apply below_alloc | apply pw_below_drewN | apply below_drew1 | refine below_set ?_ GE216.out | refine below_set ?_ GE234.out) | exact HB.out)⟩⟩
                                                · replace c45 := Bool.eq_false_iff.mpr c45
                                                  subst c45
                                                  have H1 : (impl_Coin_table.l3 k4 a1 x7_2 x9_4 x38_3 a2 x31_2 (y223.length : Int) x38_3 t228 (t228.length : Int) (wrap64 (x53_4 + 1)) a0_0 a0_1) = some r := by rw [if_neg (show ¬ (false = true) by decide)] at H; exact H
                                                  clear H
                                                  have H := H1
                                                  clear H1
                                                  have H' := Aside0.mk H
                                                  clear H
                                                  have p231 : 0 ≤ (x53_4 : Int) := of_decide_eq_true (by first | (with_reducible assumption) | assumption)
                                                  have q231 : x53_4 < (t228.length : Int) := of_decide_eq_true (by first | (with_reducible assumption) | assumption)
                                                  obtain ⟨ad231, e231, hx231_0⟩ := Kd.at_int (Kd.R_reads' HO_51.out).2.2 x53_4 p231 q231
                                                  cases e231
                                                  replace p231 := eq_true p231
                                                  replace q231 := eq_true q231
                                                  have hcz58_0 : wr.cell? ⟨gb216, 0, none⟩ = some (.int .i64 a0_0) := (blk_cell BK216.out 0).trans rfl
                                                  have hcz58_1 : wr.cell? ⟨gb216, 1, none⟩ = some (.int .i64 a0_1) := (blk_cell BK216.out 1).trans rfl
                                                  have hfz58_0 := blk_frozen BK216.out 0
                                                  have hfz58_1 := blk_frozen BK216.out 1
                                                  try go_wp2_with (first | ((with_reducible refine gate_callee (f := 73) rfl ?_); refine goesL_ (some 61) rfl rfl Try.func73 (by kernel_rfl) rfl #[.agg #[.int .i64 a0_0, .int .i64 a0_1], .slice (some ad226) x7_2.length co33, .int .i64 x38_3, .int .i64 (rd t228 x53_4)] rfl (by (try simp only [List.map_toArray, List.map_cons, List.map_nil]); first | done | rfl | (simp only [List.length_drop, List.length_take]; rfl)) ?_; (with_reducible refine (impl_Coin_staked.calls k4 a0_0 a0_1 _ _ x7_2 x38_3 (rd t228 x53_4) t232 t233 _ ?side1 ?side2 A41.out).mono ?_); (case side1 => repeat (first | exact (Kd.R_reads' HO_7.out).2.2 | (with_reducible refine Kd.C_alloc ?_ _) | (with_reducible refine Kd.C_drewN ?_ _) | (with_reducible refine Kd.C_drew ?_))); (case side2 => exact (Kd.R_reads' HO_7.out).2.1); rintro e w59 ⟨rfl, hb⟩; refine ⟨_, rfl, ?_⟩; have n0_ := Aside0.mk (Kd.R_below (by (with_reducible repeat (first | apply Kd.R_alloc | apply Kd.R_drewN | apply Kd.R_drew)); exact HO_7.out) hb); have n1_ := Aside0.mk (Kd.R_below (by (with_reducible repeat (first | apply Kd.R_alloc | apply Kd.R_drewN | apply Kd.R_drew)); exact HO_9.out) hb); have n2_ := Aside0.mk (Kd.R_below (by (with_reducible repeat (first | apply Kd.R_alloc | apply Kd.R_drewN | apply Kd.R_drew)); exact HO_51.out) hb); have n3_ := Aside0.mk (blk_below (g := gb216) (o := .cells #[.int .i64 a0_0, .int .i64 a0_1] 33 (0, 0)) (by (with_reducible repeat (first | refine blk_drewN ?_ _ | refine blk_drew ?_ | refine blk_alloc ?_ _)); exact BK216.out) hb); have n4_ := Aside0.mk (below_step (by repeat (first | (with_reducible first | exact HB.out | apply below_alloc | apply pw_below_drewN | apply below_drew1 | refine below_set ?_ GE216.out) | exact HB.out)) hb); clear HO_7; clear HO_9; clear HO_51; clear BK216; clear HB; have HO_7 := n0_; have HO_9 := n1_; have HO_51 := n2_; have BK216 := n3_; have HB := n4_; clear n0_ n1_ n2_ n3_ n4_; (try clear hb); (try clear hb2); (try clear hk); (try clear hi)) | ((with_reducible refine gate_dst (N := 13) rfl ?_); refine box_event ?hg (N := 13) ?hd (cs := #[.int .i64 0, .int .i64 0]) (t := 56) ?hr ?_; (case hd => rfl); (case hg => rfl); (case hr => first | (go_simp; done) | (go_simp; rfl)); intro gb234 hg w60 hbox hb; have n0_ := Aside0.mk (Kd.R_below (Kd.R_elderB (by (with_reducible repeat (first | apply Kd.R_alloc | apply Kd.R_drewN | apply Kd.R_drew)); exact HO_7.out) gb234 (Nat.le_of_eq hg.symm)) hb); have n1_ := Aside0.mk (Kd.R_below (Kd.R_elderB (by (with_reducible repeat (first | apply Kd.R_alloc | apply Kd.R_drewN | apply Kd.R_drew)); exact HO_9.out) gb234 (Nat.le_of_eq hg.symm)) hb); have n2_ := Aside0.mk (Kd.R_below (by (with_reducible repeat (first | apply Kd.R_alloc | apply Kd.R_drewN | apply Kd.R_drew)); exact HO_51.out) hb); have n3_ := Aside0.mk (blk_below (g := gb216) (o := .cells #[.int .i64 a0_0, .int .i64 a0_1] 33 (0, 0)) (by (with_reducible repeat (first | refine blk_drewN ?_ _ | refine blk_drew ?_ | refine blk_alloc ?_ _)); exact BK216.out) hb); have n4_ := Aside0.mk (below_step (by repeat (first | (with_reducible first | exact HB.out | apply below_alloc | apply pw_below_drewN | apply below_drew1 | refine below_set ?_ GE216.out) | exact HB.out)) hb); have n5_ := Aside0.mk (hbox); have n6_ := Aside0.mk ((by rw [hg]; exact (below_size (by repeat (first | (with_reducible first | exact HB.out | apply below_alloc | apply pw_below_drewN | apply below_drew1 | refine below_set ?_ GE216.out) | exact HB.out))) : w.heap.size ≤ gb234)); have n7_ := Aside0.mk ((by rw [hg]; exact (below_size (by repeat (first | (with_reducible first | exact HB.out | apply below_alloc | apply pw_below_drewN | apply below_drew1 | refine below_set ?_ GE216.out) | exact HB.out))) : w.heap.size ≤ gb234)); have n8_ := Aside0.mk ((by rw [hg]; exact Nat.ne_of_lt (blk_lt (g := gb216) (o := .cells #[.int .i64 a0_0, .int .i64 a0_1] 33 (0, 0)) (by (with_reducible repeat (first | refine blk_drewN ?_ _ | refine blk_drew ?_ | refine blk_alloc ?_ _)); exact BK216.out)) : gb216 ≠ gb234)); have n9_ := Aside0.mk ((by rw [hg]; exact Nat.ne_of_gt (blk_lt (g := gb216) (o := .cells #[.int .i64 a0_0, .int .i64 a0_1] 33 (0, 0)) (by (with_reducible repeat (first | refine blk_drewN ?_ _ | refine blk_drew ?_ | refine blk_alloc ?_ _)); exact BK216.out)) : gb234 ≠ gb216)); clear HO_7; clear HO_9; clear HO_51; clear BK216; clear HB; have HO_7 := n0_; have HO_9 := n1_; have HO_51 := n2_; have BK216 := n3_; have HB := n4_; have BK234 := n5_; have GW234 := n6_; have GE234 := n7_; have NB216_234 := n8_; have NB234_216 := n9_; clear n0_ n1_ n2_ n3_ n4_ n5_ n6_ n7_ n8_ n9_; clear hb hbox hg; have hnb61 := NB234_216.out; have hnc61 := NB216_234.out; have hcz62_0 : w60.cell? ⟨gb234, 0, none⟩ = some (.int .i64 0) := (blk_cell BK234.out 0).trans rfl; have hcz62_1 : w60.cell? ⟨gb234, 1, none⟩ = some (.int .i64 0) := (blk_cell BK234.out 1).trans rfl; have hfz62_0 := blk_frozen BK234.out 0; have hfz62_1 := blk_frozen BK234.out 1))
                                                  have n0_ : Aside0 (Kd.R k56 56 ((w60.setCell ⟨gb234, 0, none⟩ (.int .i64 t232)).setCell ⟨gb234, 1, none⟩ (.int .i64 t233)) w.heap.size (fun k_ => some k_ ≠ (.slice (some ⟨go31, 0, none⟩) x9_4.length co26 : Value).ownBlock ∧ k_ ≠ gb234) (.slice (some ad226) x7_2.length co33) x7_2) := ⟨by (with_reducible repeat (first | apply Kd.R_alloc | apply Kd.R_drewN | apply Kd.R_drew)); exact Kd.R_mono (Kd.R_far (p := ⟨gb234, 1, none⟩) (Kd.R_far (p := ⟨gb234, 0, none⟩) (Kd.R_mono HO_7.out (fun k_ hk => (⟨hk, hk.2⟩ : _ ∧ k_ ≠ gb234))) (fun _ hk => hk.2) (.int .i64 t232)) (fun _ hk => hk.2) (.int .i64 t233)) (fun _ hk => ⟨hk.1.1, hk.1.2⟩)⟩
                                                  have n1_ : Aside0 (Kd.R k56 56 ((w60.setCell ⟨gb234, 0, none⟩ (.int .i64 t232)).setCell ⟨gb234, 1, none⟩ (.int .i64 t233)) w.heap.size (fun k_ => some k_ ≠ (.slice (some ad226) x7_2.length co33 : Value).ownBlock ∧ k_ ≠ gb234) (.slice (some ⟨go31, 0, none⟩) x9_4.length co26) x9_4) := ⟨by (with_reducible repeat (first | apply Kd.R_alloc | apply Kd.R_drewN | apply Kd.R_drew)); exact Kd.R_mono (Kd.R_far (p := ⟨gb234, 1, none⟩) (Kd.R_far (p := ⟨gb234, 0, none⟩) (Kd.R_mono HO_9.out (fun k_ hk => (⟨hk, hk.2⟩ : _ ∧ k_ ≠ gb234))) (fun _ hk => hk.2) (.int .i64 t232)) (fun _ hk => hk.2) (.int .i64 t233)) (fun _ hk => ⟨hk.1.1, hk.1.2⟩)⟩
                                                  have n2_ : Aside0 (Kd.R (Kd.int .i64) 3 ((w60.setCell ⟨gb234, 0, none⟩ (.int .i64 t232)).setCell ⟨gb234, 1, none⟩ (.int .i64 t233)) w.heap.size (fun _ => True) (.slice (some ad231) t228.length co37) t228) := ⟨by (with_reducible repeat (first | apply Kd.R_alloc | apply Kd.R_drewN | apply Kd.R_drew)); exact Kd.R_mono (Kd.R_far (p := ⟨gb234, 1, none⟩) (Kd.R_far (p := ⟨gb234, 0, none⟩) (Kd.R_types HO_51.out BK234.out (by decide)) (fun _ hk => hk.2) (.int .i64 t232)) (fun _ hk => hk.2) (.int .i64 t233)) (fun _ hk => trivial)⟩
                                                  have n3_ : Aside0 (((w60.setCell ⟨gb234, 0, none⟩ (.int .i64 t232)).setCell ⟨gb234, 1, none⟩ (.int .i64 t233)).heap[gb216]? = some (.cells #[.int .i64 a0_0, .int .i64 a0_1] 33 (0, 0))) := ⟨by (with_reducible repeat (first | refine blk_drewN ?_ _ | refine blk_drew ?_ | refine blk_alloc ?_ _)); refine blk_far ?_ NB216_234.out _; (with_reducible repeat (first | refine blk_drewN ?_ _ | refine blk_drew ?_ | refine blk_alloc ?_ _)); refine blk_far ?_ NB216_234.out _; (with_reducible repeat (first | refine blk_drewN ?_ _ | refine blk_drew ?_ | refine blk_alloc ?_ _)); exact BK216.out⟩
                                                  have n4_ : Aside0 (((w60.setCell ⟨gb234, 0, none⟩ (.int .i64 t232)).setCell ⟨gb234, 1, none⟩ (.int .i64 t233)).heap[gb234]? = some (.cells #[.int .i64 t232, .int .i64 t233] 56 (0, 0))) := ⟨by (with_reducible repeat (first | refine blk_drewN ?_ _ | refine blk_drew ?_ | refine blk_alloc ?_ _)); refine blk_put (cs := #[.int .i64 t232, .int .i64 0]) ?_ 1 _ rfl; (with_reducible repeat (first | refine blk_drewN ?_ _ | refine blk_drew ?_ | refine blk_alloc ?_ _)); refine blk_put (cs := #[.int .i64 0, .int .i64 0]) ?_ 0 _ rfl; (with_reducible repeat (first | refine blk_drewN ?_ _ | refine blk_drew ?_ | refine blk_alloc ?_ _)); exact BK234.out⟩
                                                  have n5_ : Aside0 (Below w.heap.size w ((w60.setCell ⟨gb234, 0, none⟩ (.int .i64 t232)).setCell ⟨gb234, 1, none⟩ (.int .i64 t233))) := ⟨by repeat (first | (with_reducible first | exact HB.out | apply below_alloc | apply pw_below_drewN | apply below_drew1 | refine below_set ?_ GE216.out | refine below_set ?_ GE234.out) | exact HB.out)⟩
                                                  (try clear HO_7)
                                                  (try clear HO_9)
                                                  (try clear HO_51)
                                                  (try clear BK216)
                                                  (try clear BK234)
                                                  (try clear HB)
                                                  generalize ((w60.setCell ⟨gb234, 0, none⟩ (.int .i64 t232)).setCell ⟨gb234, 1, none⟩ (.int .i64 t233)) = w63 at n0_ n1_ n2_ n3_ n4_ n5_ ⊢
                                                  have HO_7 := n0_
                                                  have HO_9 := n1_
                                                  have HO_51 := n2_
                                                  have BK216 := n3_
                                                  have BK234 := n4_
                                                  have HB := n5_
                                                  clear n0_ n1_ n2_ n3_ n4_ n5_
                                                  have n0_ := Aside0.mk (Kd.R_drew HO_7.out)
                                                  have n1_ := Aside0.mk (Kd.R_drew HO_9.out)
                                                  have n2_ := Aside0.mk (Kd.R_drew HO_51.out)
                                                  have n3_ := Aside0.mk (blk_drew BK216.out)
                                                  have n4_ := Aside0.mk (blk_drew BK234.out)
                                                  have n5_ := Aside0.mk (below_drew1 HB.out)
                                                  clear HO_7
                                                  clear HO_9
                                                  clear HO_51
                                                  clear BK216
                                                  clear BK234
                                                  clear HB
                                                  have HO_7 := n0_
                                                  have HO_9 := n1_
                                                  have HO_51 := n2_
                                                  have BK216 := n3_
                                                  have BK234 := n4_
                                                  have HB := n5_
                                                  clear n0_ n1_ n2_ n3_ n4_ n5_
                                                  have p235 : 0 ≤ (x38_3 : Int) := of_decide_eq_true (by first | (with_reducible assumption) | assumption)
                                                  have q235 : x38_3 < (x9_4.length : Int) := of_decide_eq_true (by first | (with_reducible assumption) | assumption)
                                                  obtain ⟨ad235, e235, hx235_0, hx235_1⟩ := at_T56 (Kd.R_reads' HO_9.out).2.2 x38_3 p235 q235
                                                  obtain rfl : (⟨go31, 0, none⟩ : Addr) = ad235 := (by injection e235)
                                                  (first | simp only [add_plain] at hx235_0 | simp only [add_at] at hx235_0 | simp only [Addr.add, Nat.zero_add] at hx235_0 | skip)
                                                  (first | simp only [add_plain] at hx235_1 | simp only [add_at] at hx235_1 | simp only [Addr.add, Nat.zero_add] at hx235_1 | skip)
                                                  replace p235 := eq_true p235
                                                  replace q235 := eq_true q235
                                                  refine start_ (n := 6) (S := fun w' => w'.cell? ⟨gb234, 0, none⟩ = some (.int .i64 t232) ∧ w'.cell? ⟨gb234, 1, none⟩ = some (.int .i64 t233) ∧ w'.cell? ⟨go31, (x38_3).toNat * 2, none⟩ = some (.int .i64 ((rd_T56 x9_4 x38_3).f0)) ∧ w'.cell? ⟨go31, (x38_3).toNat * 2 + 1, none⟩ = some (.int .i64 ((rd_T56 x9_4 x38_3).f1))) (ds := []) #[false, false, false, false, false, false] (by kernel_rfl) rfl rfl ⟨(blk_cell BK234.out 0).trans rfl, (blk_cell BK234.out 1).trans rfl, hx235_0, hx235_1⟩ (fun hHeld => ?_)
                                                  generalize w63.drew = w64 at HO_7 HO_9 HO_51 BK216 BK234 HB hx235_0 hx235_1 hHeld ⊢
                                                  refine pure_ (i := 1) (N := some 63) (v := ?_) (a' := ?_) #[false, true, false, false, false, false] rfl rfl (by kernel_rfl) (fun _ _ _ h => h) (Or.inl ⟨by rfl, ?_⟩) ?_ ?_
                                                  rotate_left
                                                  · intro w'
                                                    go_simp
                                                    with_reducible rfl
                                                  rotate_left
                                                  · simp only [Act.put, List.setIfInBounds_toArray, List.set_cons_zero, List.set_cons_succ, i64_w, i32_w]
                                                    rfl
                                                  refine pure_ (i := 2) (N := some 64) (v := ?_) (a' := ?_) #[false, true, true, false, false, false] rfl rfl (by kernel_rfl) (fun _ _ _ h => h) (Or.inl ⟨by rfl, ?_⟩) ?_ ?_
                                                  rotate_left
                                                  · intro w'
                                                    go_simp
                                                    with_reducible rfl
                                                  rotate_left
                                                  · simp only [Act.put, List.setIfInBounds_toArray, List.set_cons_zero, List.set_cons_succ, i64_w, i32_w]
                                                    rfl
                                                  refine pure_ (i := 3) (N := some 65) (v := ?_) (a' := ?_) #[false, true, true, true, false, false] rfl rfl (by kernel_rfl) (fun _ _ _ h => h) (Or.inl ⟨by rfl, ?_⟩) ?_ ?_
                                                  rotate_left
                                                  · intro w'
                                                    go_simp
                                                    with_reducible rfl
                                                  rotate_left
                                                  · simp only [Act.put, List.setIfInBounds_toArray, List.set_cons_zero, List.set_cons_succ, i64_w, i32_w]
                                                    rfl
                                                  refine take_ (i := 0) (N := some 62) (v := ?_) (a' := ?_) #[true, true, true, true, false, false] rfl rfl (by kernel_rfl) (fun _ _ _ h => h) (Or.inl ⟨by rfl, ?_⟩) hHeld ?_ ?_
                                                  rotate_left
                                                  · rintro w' ⟨s0, s1, s2, s3⟩
                                                    go_simp
                                                    with_reducible rfl
                                                  rotate_left
                                                  · simp only [Act.put, List.setIfInBounds_toArray, List.set_cons_zero, List.set_cons_succ, i64_w, i32_w]
                                                    rfl
                                                  refine take_ (i := 4) (N := some 66) (v := ?_) (a' := ?_) #[true, true, true, true, true, false] rfl rfl (by kernel_rfl) (fun _ _ _ h => h) (Or.inl ⟨by rfl, ?_⟩) hHeld ?_ ?_
                                                  rotate_left
                                                  · rintro w' ⟨s0, s1, s2, s3⟩
                                                    go_simp
                                                    with_reducible rfl
                                                  rotate_left
                                                  · simp only [Act.put, List.setIfInBounds_toArray, List.set_cons_zero, List.set_cons_succ, i64_w, i32_w]
                                                    rfl
                                                  refine one_ (i := 5) (N := some 67) #[true, true, true, true, true, true] rfl rfl (by kernel_rfl) (by decide) (fun K hK => ?_)
                                                  refine goes_ Try.func80 (by kernel_rfl) rfl #[.agg #[.int .i64 t232, .int .i64 t233], .agg #[.int .i64 ((rd_T56 x9_4 x38_3).f0), .int .i64 ((rd_T56 x9_4 x38_3).f1)]] (by rfl) rfl rfl (by (try simp only [List.map_toArray, List.map_cons, List.map_nil]); first | done | rfl | (simp only [List.length_drop, List.length_take]; rfl)) ?_
                                                  with_reducible refine (impl_frac_isMore.calls t232 t233 ((rd_T56 x9_4 x38_3).f0) ((rd_T56 x9_4 x38_3).f1) false _ A44.out).mono ?_
                                                  rintro e w65 ⟨rfl, hb⟩
                                                  have HS2_ := (hb.cell (World.block_lt_of_cell? _ _ (hHeld.2.2.1))).trans (hHeld.2.2.1)
                                                  have HS3_ := (hb.cell (World.block_lt_of_cell? _ _ (hHeld.2.2.2))).trans (hHeld.2.2.2)
                                                  refine ⟨_, rfl, ?_⟩
                                                  have n0_ := Aside0.mk (Kd.R_below (by (with_reducible repeat (first | apply Kd.R_alloc | apply Kd.R_drewN | apply Kd.R_drew)); exact HO_7.out) hb)
                                                  have n1_ := Aside0.mk (Kd.R_below (by (with_reducible repeat (first | apply Kd.R_alloc | apply Kd.R_drewN | apply Kd.R_drew)); exact HO_9.out) hb)
                                                  have n2_ := Aside0.mk (Kd.R_below (by (with_reducible repeat (first | apply Kd.R_alloc | apply Kd.R_drewN | apply Kd.R_drew)); exact HO_51.out) hb)
                                                  have n3_ := Aside0.mk (blk_below (g := gb216) (o := .cells #[.int .i64 a0_0, .int .i64 a0_1] 33 (0, 0)) (by (with_reducible repeat (first | refine blk_drewN ?_ _ | refine blk_drew ?_ | refine blk_alloc ?_ _)); exact BK216.out) hb)
                                                  have n4_ := Aside0.mk (blk_below (g := gb234) (o := .cells #[.int .i64 t232, .int .i64 t233] 56 (0, 0)) (by (with_reducible repeat (first | refine blk_drewN ?_ _ | refine blk_drew ?_ | refine blk_alloc ?_ _)); exact BK234.out) hb)
                                                  have n5_ := Aside0.mk (below_step (by repeat (first | (with_reducible first | exact HB.out | apply below_alloc | apply pw_below_drewN | apply below_drew1 | refine below_set ?_ GE216.out | refine below_set ?_ GE234.out) | exact HB.out)) hb)
                                                  clear HO_7
                                                  clear HO_9
                                                  clear HO_51
                                                  clear BK216
                                                  clear BK234
                                                  clear HB
                                                  have HO_7 := n0_
                                                  have HO_9 := n1_
                                                  have HO_51 := n2_
                                                  have BK216 := n3_
                                                  have BK234 := n4_
                                                  have HB := n5_
                                                  clear n0_ n1_ n2_ n3_ n4_ n5_
                                                  (try clear hb)
                                                  (try clear hb2)
                                                  (try clear hk)
                                                  (try clear hi)
                                                  refine hK.out _ _ ⟨(blk_cell BK234.out 0).trans rfl, (blk_cell BK234.out 1).trans rfl, HS2_, HS3_⟩ (fun hHeld => ?_)
                                                  clear hK K
                                                  refine norm_ (a' := ?_) ?_ ?_
                                                  rotate_left
                                                  · show Act.put _ (some 67) _ = _
                                                    simp only [Act.put, List.setIfInBounds_toArray, List.set_cons_zero, List.set_cons_succ, i64_w, i32_w]
                                                    rfl
                                                  refine done_ (by kernel_rfl) ?_
                                                  try go_wp2
                                                  (try simp only [← hl9_4])
                                                  go_roundg k4
                                                  case measure => have := HK1.out; have := HK2.out; have := HK3.out; have := HK4.out; omega
                                                  case rel => exact ⟨(x9_4), (wrap64 (x53_4 + 1)), (by first | rfl | (simp; done) | (simp [*]; done)), H', ⟨by have := HK1.out; have := HK2.out; have := HK3.out; have := HK4.out; omega⟩, ⟨by (try simp only [hl7_1]); (try simp only [hl9_3]); (try simp only [hl9_4]); (with_reducible repeat (first | apply Kd.R_alloc | apply Kd.R_drewN | apply Kd.R_drew)); exact Kd.R_mono HO_7.out (fun _ hk => hk.1)⟩, ⟨by (try simp only [hl7_1]); (try simp only [hl9_3]); (try simp only [hl9_4]); (with_reducible repeat (first | apply Kd.R_alloc | apply Kd.R_drewN | apply Kd.R_drew)); exact Kd.R_mono HO_9.out (fun _ hk => hk.1)⟩, ⟨by (try simp only [hl7_1]); (try simp only [hl9_3]); (try simp only [hl9_4]); (with_reducible repeat (first | apply Kd.R_alloc | apply Kd.R_drewN | apply Kd.R_drew)); exact HO_51.out⟩, ⟨by (try simp only [hl7_1]); (try simp only [hl9_3]); (try simp only [hl9_4]); (with_reducible repeat (first | refine blk_drewN ?_ _ | refine blk_drew ?_ | refine blk_alloc ?_ _)); exact BK216.out⟩, ⟨by repeat (first | (with_reducible first | exact HB.out | apply below_alloc | apply pw_below_drewN | apply below_drew1 | refine below_set ?_ GE216.out | refine below_set ?_ GE234.out) | exact HB.out)⟩⟩
                                              · rw [if_neg c43] at H
                                                exact absurd H (by simp)
                                            · rw [if_neg c42] at H
                                              exact absurd H (by simp)
                                          · rw [if_neg c40] at H
                                            exact absurd H (by simp)
                                        · rw [if_neg c39] at H
                                          exact absurd H (by simp)
                                      · rw [if_neg c38] at H
                                        have c38b0 : decide (x53_4 < (t228.length : Int)) = false := decide_eq_false c38
                                        (try (have c38b9 := c38b0; simp only [hl7_1, hl9_3, hl9_4] at c38b9))
                                        clear c38
                                        have H' := Aside0.mk H
                                        clear H
                                        go_wp2
                                        (try simp only [← hl9_3, ← hl9_4])
                                        go_roundg k4
                                        case measure => have := HK1.out; have := HK2.out; have := HK3.out; have := HK4.out; omega
                                        case rel => exact ⟨(x9_4), (wrap64 (x38_3 + 1)), (by first | rfl | (simp; done) | (simp [*]; done)), H', ⟨by have := HK1.out; have := HK2.out; have := HK3.out; have := HK4.out; omega⟩, ⟨by (try simp only [hl7_1]); (try simp only [hl9_3]); (try simp only [hl9_4]); (with_reducible repeat (first | apply Kd.R_alloc | apply Kd.R_drewN | apply Kd.R_drew)); exact HO_7.out⟩, ⟨by (try simp only [hl7_1]); (try simp only [hl9_3]); (try simp only [hl9_4]); (with_reducible repeat (first | apply Kd.R_alloc | apply Kd.R_drewN | apply Kd.R_drew)); exact HO_9.out⟩, ⟨by (try simp only [hl7_1]); (try simp only [hl9_3]); (try simp only [hl9_4]); (with_reducible repeat (first | refine blk_drewN ?_ _ | refine blk_drew ?_ | refine blk_alloc ?_ _)); exact BK216.out⟩, ⟨by repeat (first | (with_reducible first | exact HB.out | apply below_alloc | apply pw_below_drewN | apply below_drew1 | refine below_set ?_ GE216.out) | exact HB.out)⟩⟩
                                · rw [if_neg c30] at H
                                  exact absurd H (by simp)
                              · rw [if_neg c29] at H
                                exact absurd H (by simp)
                            · rw [if_neg c28] at H
                              exact absurd H (by simp)
                          · rw [if_neg c27] at H
                            have c27b0 : decide (x38_3 < (y223.length : Int)) = false := decide_eq_false c27
                            (try (have c27b9 := c27b0; simp only [hl7_1, hl9_3] at c27b9))
                            clear c27
                            have H' := Aside0.mk H
                            clear H
                            go_wp2
                            (try simp only [← hl9_3])
                            go_roundg k3
                            case measure => have := HK1.out; have := HK2.out; have := HK3.out; omega
                            case rel => exact ⟨(x9_3), (wrap64 (x31_2 + 1)), (by first | rfl | (simp; done) | (simp [*]; done)), H', ⟨by have := HK1.out; have := HK2.out; have := HK3.out; omega⟩, ⟨by (try simp only [hl7_1]); (try simp only [hl9_3]); (with_reducible repeat (first | apply Kd.R_alloc | apply Kd.R_drewN | apply Kd.R_drew)); exact Kd.R_mono HO_9.out (fun _ hk => trivial)⟩, ⟨by (try simp only [hl7_1]); (try simp only [hl9_3]); (with_reducible repeat (first | refine blk_drewN ?_ _ | refine blk_drew ?_ | refine blk_alloc ?_ _)); exact BK216.out⟩, ⟨by repeat (first | (with_reducible first | exact HB.out | apply below_alloc | apply pw_below_drewN | apply below_drew1 | refine below_set ?_ GE216.out) | exact HB.out)⟩⟩
                    · rw [if_neg c23] at H
                      exact absurd H (by simp)
                  · rw [if_neg c22] at H
                    exact absurd H (by simp)
                · rw [if_neg c20] at H
                  have c20b0 : decide (x31_2 < a2) = false := decide_eq_false c20
                  (try (have c20b9 := c20b0; simp only [hl7_1] at c20b9))
                  clear c20
                  obtain rfl := Option.some.inj H
                  go_wp2
                  go_ret
                  exact ⟨_, by first | rfl | (simp [errW_none, errW_some] <;> rfl) | (simp only [← hji4]; first | rfl | (simp [errW_none, errW_some] <;> rfl)) | (simp [*, errW_none, errW_some] <;> rfl), by (with_reducible repeat (first | apply Kd.R_alloc | apply Kd.R_drewN | apply Kd.R_drew)); exact HO_7.out, by repeat (first | (with_reducible first | exact HB.out | apply below_alloc | apply pw_below_drewN | apply below_drew1 | refine below_set ?_ GE216.out) | exact HB.out)⟩
    · rw [if_neg c6] at H
      exact absurd H (by simp)
  · rw [if_neg c5] at H
    exact absurd H (by simp)

end Go.Proofs.Ytkcpmdkjhpbmfaa.QFnExactBestStakes
