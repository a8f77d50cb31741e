/- The functions that a law reaches, as plain Lean functions, and their walks. Written by a program of this session, turned out of the kit's print. Conditions: those that each theorem names. -/
import Derived.Test.YtjcilclfgghfhaaQFnExactSolutionsx0
import Derived.Test.YtjcilclfgghfhaaQFnExactSolutionsx2
import Derived.Test.YtjcilclfgghfhaaQFnExactSolutionsx3
import Derived.Test.YtjcilclfgghfhaaQFnExactSolutionsx4
import Derived.Test.YtjcilclfgghfhaaQFnExactSolutionsx8
import Derived.Test.YtjcilclfgghfhaaQFnExactSolutionsx9
namespace Go.Proofs.Ytjcilclfgghfhaa.QFnExactSolutions
open Go.RowKit Go.Proofs.YtjcilclfgghfhaaW.PrintWords Go.Proofs.YtjcilclfgghfhaaW.PrintLast Go.Proofs.YtjcilclfgghfhaaW.PrintMore
attribute [local go_sem] max2_int min2_int max_two min_two max_three min_three max_four min_four   -- for this text's walks alone
attribute [local go_sem] Go.Proofs.Ytjcilclfgghfhaa.Kit.isSome_setCell
set_option linter.unusedVariables false
set_option linter.unusedSimpArgs false
-- steps that stand often, each proved where it is used
theorem aLB {Q P : Prop} (q : Aside0 Q) (h : Q → P := by intro q; (with_reducible repeat (first | refine blk_drewN ?_ _ | refine blk_drew ?_ | refine blk_alloc ?_ _ | refine blk_far ?_ (Aside0.out (by assumption)) _)); exact q) : P := h q.out
theorem aHB {B : Nat} {w0 w1 w w' : World} (q : Aside0 (Below B w0 w1)) (h : Below B w0 w1 → Below B w w' := by intro q; repeat (first | (with_reducible first | exact q | apply below_alloc | apply pw_below_drewN | apply below_drew1 | refine below_set ?_ (Aside0.out (by assumption))) | exact q)) : Below B w w' := h q.out
theorem aLT {w0 w : World} {g : Nat} {o : Obj} (q : Aside0 (w0.heap[g]? = some o)) (h : w0.heap[g]? = some o → w.heap[g]? = some o := by intro q; (with_reducible repeat (first | refine blk_drewN ?_ _ | refine blk_drew ?_ | refine blk_alloc ?_ _)); exact q) : g < w.heap.size := blk_lt (h q.out)
theorem aR {Q P : Prop} (q : Aside0 Q) (h : Q → P := by intro q; (with_reducible repeat (first | apply Kd.R_alloc | apply Kd.R_drewN | apply Kd.R_drew)); exact q) : P := h q.out
theorem aBC {w : World} {g : Nat} {cs : Array Value} {t : TypeId} {u : Value} (h : Aside0 (w.heap[g]? = some (.cells cs t (0, 0)))) (i : Nat) (e : cs[i]? = some u := by rfl) : w.cell? ⟨g, i, none⟩ = some u := (blk_cell h.out i).trans e
theorem aBB {w0 w w1 : World} {g : Nat} {o : Obj} (q : Aside0 (w0.heap[g]? = some o)) (hb : Below w.heap.size w w1) (h : w0.heap[g]? = some o → w.heap[g]? = some o := by intro q; (with_reducible repeat (first | refine blk_drewN ?_ _ | refine blk_drew ?_ | refine blk_alloc ?_ _ | refine blk_far ?_ (Aside0.out (by assumption)) _)); exact q) : Aside0 (w1.heap[g]? = some o) := ⟨blk_below (h q.out) hb⟩
theorem aAT {P : Prop} (h : P := by (try simp only [List.map_toArray, List.map_cons, List.map_nil]); first | done | rfl | (simp only [List.length_drop, List.length_take]; rfl)) : P := h

/-! ### laws_FnExactSolutions: function 14 -/
mutual
def laws_FnExactSolutions.j0 : Nat → List (S41) → Bool → List (S41) → Bool → Bool → Int → List (S34) → Int → List (S39) → Option (Bool)
 | 0, _, _, _, _, _, _, _, _, _ => none
 | k + 1, x4, x5, x7, x8, x40, x246000, x246001, x260000, x260001 => if x40 = true then (some false) else ((laws_toPuzzle.f k x246000 x246001).bind fun bt265 => ((laws_eqPuzzle.f k x260000 x260001 bt265.1 bt265.2).bind fun t269 => (if t269 = true then ((laws_markPuzzle.f k x260000 x260001 1).bind fun bt270 => (if bt270.1 < 0 then (laws_FnExactSolutions.j1 k x4 x5 x7 true x246000 x246001) else ((laws_eqChainS.f k x7 x4).bind fun t272 => (if t272 = true then (laws_FnExactSolutions.j1 k x4 x5 x7 (x8 != x5) x246000 x246001) else (laws_FnExactSolutions.j1 k x4 x5 x7 true x246000 x246001))))) else (some false))))
def laws_FnExactSolutions.j1 : Nat → List (S41) → Bool → List (S41) → Bool → Int → List (S34) → Option (Bool)
 | 0, _, _, _, _, _, _ => none
 | k + 1, x4, x5, x7, x61, x246000, x246001 => if x61 = true then (some false) else ((laws_markChainS.f k x7 1).bind fun bt273 => ((laws_heldChainS.f k bt273.2 1).bind fun t275 => (if t275 < 0 then (some false) else (if t275 = bt273.1 then ((laws_toPuzzle.f k x246000 x246001).bind fun bt276 => ((impl_Solutions.f k bt276.1 bt276.2).bind fun bt280 => ((laws_eqChainS.f k bt280.1 x4).bind fun t284 => (if t284 = true then (laws_FnExactSolutions.j2 k bt273.2 bt273.1 (bt280.2 != x5)) else (laws_FnExactSolutions.j2 k bt273.2 bt273.1 true))))) else (some false)))))
def laws_FnExactSolutions.j2 : Nat → List (S41) → Int → Bool → Option (Bool)
 | 0, _, _, _ => none
 | k + 1, x7, x10, x87 => if x87 = true then (some false) else ((laws_heldChainS.f k x7 1).bind fun t285 => (if t285 < 0 then (some false) else (if t285 = x10 then (some true) else (some false))))
end
def laws_FnExactSolutions.f (k : Nat) (a0_0 : Int) (l0_1 : List (S34)) : Option (Bool) := (laws_szPuzzle.f a0_0 l0_1 1048576).bind fun t246 => (if t246 < 0 then (some true) else ((laws_toPuzzle.f k a0_0 l0_1).bind fun bt247 => ((spec_Solutions.f k bt247.1 bt247.2).bind fun bt251 => ((laws_toPuzzle.f k a0_0 l0_1).bind fun bt255 => ((impl_Solutions.f k bt255.1 bt255.2).bind fun bt260 => ((laws_eqChainS.f k bt260.1 bt251.1).bind fun t264 => (if t264 = true then (laws_FnExactSolutions.j0 k bt251.1 bt251.2 bt260.1 bt260.2 (bt260.2 != bt251.2) a0_0 l0_1 bt255.1 bt255.2) else (laws_FnExactSolutions.j0 k bt251.1 bt251.2 bt260.1 bt260.2 true a0_0 l0_1 bt255.1 bt255.2))))))))
theorem laws_FnExactSolutions.mono_l : ∀ k, (∀ y0 y1 y2 y3 y4 y5 y6 y7 y8, LeO (laws_FnExactSolutions.j0 k y0 y1 y2 y3 y4 y5 y6 y7 y8) (laws_FnExactSolutions.j0 (k + 1) y0 y1 y2 y3 y4 y5 y6 y7 y8)) ∧ (∀ y0 y1 y2 y3 y4 y5, LeO (laws_FnExactSolutions.j1 k y0 y1 y2 y3 y4 y5) (laws_FnExactSolutions.j1 (k + 1) y0 y1 y2 y3 y4 y5)) ∧ (∀ y0 y1 y2, LeO (laws_FnExactSolutions.j2 k y0 y1 y2) (laws_FnExactSolutions.j2 (k + 1) y0 y1 y2))
 | 0 => ⟨fun _ _ _ _ _ _ _ _ _ r h => by simp [laws_FnExactSolutions.j0] at h, fun _ _ _ _ _ _ r h => by simp [laws_FnExactSolutions.j1] at h, fun _ _ _ r h => by simp [laws_FnExactSolutions.j2] at h⟩
 | k + 1 => by
  obtain ⟨ih0, ih1, ih2⟩ := laws_FnExactSolutions.mono_l k
  refine ⟨?_, ?_, ?_⟩
  ·intro y0 y1 y2 y3 y4 y5 y6 y7 y8
   unfold laws_FnExactSolutions.j0
   repeat' first
   | (with_reducible exact ih0 _ _ _ _ _ _ _ _ _)
   | (with_reducible exact ih1 _ _ _ _ _ _)
   | (with_reducible exact ih2 _ _ _)
   | (with_reducible exact impl_Solutions.mono _ _ _)
   | (with_reducible exact laws_eqChainS.mono _ _ _)
   | (with_reducible exact laws_eqPuzzle.mono _ _ _ _ _)
   | (with_reducible exact laws_heldChainS.mono _ _ _)
   | (with_reducible exact laws_markChainS.mono _ _ _)
   | (with_reducible exact laws_markPuzzle.mono _ _ _ _)
   | (with_reducible exact laws_toPuzzle.mono _ _ _)
   | (with_reducible exact spec_Solutions.mono _ _ _)
   | (with_reducible exact LeO.refl _)
   | (with_reducible exact LeO.none _)
   | (with_reducible refine LeO.ite ?_ ?_)
   | (with_reducible refine LeO.bind ?_ (fun _ => ?_))
   | exact ih0 _ _ _ _ _ _ _ _ _
   | exact ih1 _ _ _ _ _ _
   | exact ih2 _ _ _
   | exact impl_Solutions.mono _ _ _
   | exact laws_eqChainS.mono _ _ _
   | exact laws_eqPuzzle.mono _ _ _ _ _
   | exact laws_heldChainS.mono _ _ _
   | exact laws_markChainS.mono _ _ _
   | exact laws_markPuzzle.mono _ _ _ _
   | exact laws_toPuzzle.mono _ _ _
   | exact spec_Solutions.mono _ _ _
   | exact LeO.none _
   | refine LeO.ite ?_ ?_
   | refine LeO.bind ?_ (fun _ => ?_)
  ·intro y0 y1 y2 y3 y4 y5
   unfold laws_FnExactSolutions.j1
   repeat' first
   | (with_reducible exact ih0 _ _ _ _ _ _ _ _ _)
   | (with_reducible exact ih1 _ _ _ _ _ _)
   | (with_reducible exact ih2 _ _ _)
   | (with_reducible exact impl_Solutions.mono _ _ _)
   | (with_reducible exact laws_eqChainS.mono _ _ _)
   | (with_reducible exact laws_eqPuzzle.mono _ _ _ _ _)
   | (with_reducible exact laws_heldChainS.mono _ _ _)
   | (with_reducible exact laws_markChainS.mono _ _ _)
   | (with_reducible exact laws_markPuzzle.mono _ _ _ _)
   | (with_reducible exact laws_toPuzzle.mono _ _ _)
   | (with_reducible exact spec_Solutions.mono _ _ _)
   | (with_reducible exact LeO.refl _)
   | (with_reducible exact LeO.none _)
   | (with_reducible refine LeO.ite ?_ ?_)
   | (with_reducible refine LeO.bind ?_ (fun _ => ?_))
   | exact ih0 _ _ _ _ _ _ _ _ _
   | exact ih1 _ _ _ _ _ _
   | exact ih2 _ _ _
   | exact impl_Solutions.mono _ _ _
   | exact laws_eqChainS.mono _ _ _
   | exact laws_eqPuzzle.mono _ _ _ _ _
   | exact laws_heldChainS.mono _ _ _
   | exact laws_markChainS.mono _ _ _
   | exact laws_markPuzzle.mono _ _ _ _
   | exact laws_toPuzzle.mono _ _ _
   | exact spec_Solutions.mono _ _ _
   | exact LeO.none _
   | refine LeO.ite ?_ ?_
   | refine LeO.bind ?_ (fun _ => ?_)
  ·intro y0 y1 y2
   unfold laws_FnExactSolutions.j2
   repeat' first
   | (with_reducible exact ih0 _ _ _ _ _ _ _ _ _)
   | (with_reducible exact ih1 _ _ _ _ _ _)
   | (with_reducible exact ih2 _ _ _)
   | (with_reducible exact impl_Solutions.mono _ _ _)
   | (with_reducible exact laws_eqChainS.mono _ _ _)
   | (with_reducible exact laws_eqPuzzle.mono _ _ _ _ _)
   | (with_reducible exact laws_heldChainS.mono _ _ _)
   | (with_reducible exact laws_markChainS.mono _ _ _)
   | (with_reducible exact laws_markPuzzle.mono _ _ _ _)
   | (with_reducible exact laws_toPuzzle.mono _ _ _)
   | (with_reducible exact spec_Solutions.mono _ _ _)
   | (with_reducible exact LeO.refl _)
   | (with_reducible exact LeO.none _)
   | (with_reducible refine LeO.ite ?_ ?_)
   | (with_reducible refine LeO.bind ?_ (fun _ => ?_))
   | exact ih0 _ _ _ _ _ _ _ _ _
   | exact ih1 _ _ _ _ _ _
   | exact ih2 _ _ _
   | exact impl_Solutions.mono _ _ _
   | exact laws_eqChainS.mono _ _ _
   | exact laws_eqPuzzle.mono _ _ _ _ _
   | exact laws_heldChainS.mono _ _ _
   | exact laws_markChainS.mono _ _ _
   | exact laws_markPuzzle.mono _ _ _ _
   | exact laws_toPuzzle.mono _ _ _
   | exact spec_Solutions.mono _ _ _
   | exact LeO.none _
   | refine LeO.ite ?_ ?_
   | refine LeO.bind ?_ (fun _ => ?_)
theorem laws_FnExactSolutions.mono : ∀ a0 a1 k, LeO (laws_FnExactSolutions.f k a0 a1) (laws_FnExactSolutions.f (k + 1) a0 a1) := by
 intro a0 a1 k
 obtain ⟨ih0, ih1, ih2⟩ := laws_FnExactSolutions.mono_l k
 unfold laws_FnExactSolutions.f
 repeat' first
   | (with_reducible exact ih0 _ _ _ _ _ _ _ _ _)
   | (with_reducible exact ih1 _ _ _ _ _ _)
   | (with_reducible exact ih2 _ _ _)
   | (with_reducible exact impl_Solutions.mono _ _ _)
   | (with_reducible exact laws_eqChainS.mono _ _ _)
   | (with_reducible exact laws_eqPuzzle.mono _ _ _ _ _)
   | (with_reducible exact laws_heldChainS.mono _ _ _)
   | (with_reducible exact laws_markChainS.mono _ _ _)
   | (with_reducible exact laws_markPuzzle.mono _ _ _ _)
   | (with_reducible exact laws_toPuzzle.mono _ _ _)
   | (with_reducible exact spec_Solutions.mono _ _ _)
   | (with_reducible exact LeO.refl _)
   | (with_reducible exact LeO.none _)
   | (with_reducible refine LeO.ite ?_ ?_)
   | (with_reducible refine LeO.bind ?_ (fun _ => ?_))
   | exact ih0 _ _ _ _ _ _ _ _ _
   | exact ih1 _ _ _ _ _ _
   | exact ih2 _ _ _
   | exact impl_Solutions.mono _ _ _
   | exact laws_eqChainS.mono _ _ _
   | exact laws_eqPuzzle.mono _ _ _ _ _
   | exact laws_heldChainS.mono _ _ _
   | exact laws_markChainS.mono _ _ _
   | exact laws_markPuzzle.mono _ _ _ _
   | exact laws_toPuzzle.mono _ _ _
   | exact spec_Solutions.mono _ _ _
   | exact LeO.none _
   | refine LeO.ite ?_ ?_
   | refine LeO.bind ?_ (fun _ => ?_)
set_option maxHeartbeats 8000000 in
set_option maxRecDepth 100000 in
theorem laws_FnExactSolutions.calls (k : Nat) (a0_0 : Int) (A0_1 : Option Addr) (c0_1 : Nat) (l0_1 : List (S34)) (r : Bool) (w : World) (hr0_1 : Kd.C k34 w A0_1 l0_1.length l0_1) (hc0_1 : l0_1.length ≤ c0_1) (h : laws_FnExactSolutions.f k a0_0 l0_1 = some r) :
  Calls Try.prog 14 #[.agg #[.int .i64 a0_0, .slice A0_1 l0_1.length c0_1]] w fun e w' => e = .returned (.bool r) ∧ Below w.heap.size w w' := by
 have hu24 := Try.underlying24
 have hu29 := Try.underlying29
 have HR0_1 := Aside0.mk hr0_1
 have HC0_1 := Aside0.mk hc0_1
 clear hr0_1 hc0_1
 have HB := Aside0.mk (Below.refl w.heap.size w)
 have H : ((laws_szPuzzle.f a0_0 l0_1 1048576).bind fun t246 => (if t246 < 0 then (some true) else ((laws_toPuzzle.f k a0_0 l0_1).bind fun bt247 => ((spec_Solutions.f k bt247.1 bt247.2).bind fun bt251 => ((laws_toPuzzle.f k a0_0 l0_1).bind fun bt255 => ((impl_Solutions.f k bt255.1 bt255.2).bind fun bt260 => ((laws_eqChainS.f k bt260.1 bt251.1).bind fun t264 => (if t264 = true then (laws_FnExactSolutions.j0 k bt251.1 bt251.2 bt260.1 bt260.2 (bt260.2 != bt251.2) a0_0 l0_1 bt255.1 bt255.2) else (laws_FnExactSolutions.j0 k bt251.1 bt251.2 bt260.1 bt260.2 true a0_0 l0_1 bt255.1 bt255.2))))))))) = some r := h
 clear h
 replace H := Option.bind_eq_some_iff.mp H
 obtain ⟨t246, A20, H⟩ := H
 replace H : (if t246 < 0 then (some true) else ((laws_toPuzzle.f k a0_0 l0_1).bind fun bt247 => ((spec_Solutions.f k bt247.1 bt247.2).bind fun bt251 => ((laws_toPuzzle.f k a0_0 l0_1).bind fun bt255 => ((impl_Solutions.f k bt255.1 bt255.2).bind fun bt260 => ((laws_eqChainS.f k bt260.1 bt251.1).bind fun t264 => (if t264 = true then (laws_FnExactSolutions.j0 k bt251.1 bt251.2 bt260.1 bt260.2 (bt260.2 != bt251.2) a0_0 l0_1 bt255.1 bt255.2) else (laws_FnExactSolutions.j0 k bt251.1 bt251.2 bt260.1 bt260.2 true a0_0 l0_1 bt255.1 bt255.2)))))))) = some r := H
 have A2 := Aside0.mk A20
 clear A20
 by_cases c3 : t246 < 0
 ·rw [if_pos c3] at H
  have c3b0 : decide (t246 < 0) = true := decide_eq_true c3
  clear c3
  obtain rfl := Option.some.inj H
  go_enter Try.func14, Try.ntmps14
  go_wp2_with (first | ((with_reducible refine gate_dst (N := 1) rfl ?_); refine box_event ?hg (N := 1) ?hd (cs := #[.int .i64 a0_0, .slice A0_1 l0_1.length c0_1]) (t := 24) ?hr ?_; (case hd => rfl); (case hg => rfl); (case hr => first | (go_simp; done) | (go_simp; rfl)); intro gb245 hg w4 hbox hb; have n0_ := Aside0.mk (below_step (aHB HB) hb); have n1_ := Aside0.mk (hbox); have n2_ := Aside0.mk ((by rw [hg]; exact (below_size (aHB HB)) : w.heap.size ≤ gb245)); have n3_ := Aside0.mk ((by rw [hg]; exact (below_size (aHB HB)) : w.heap.size ≤ gb245)); clear HB; have HB := n0_; have BK245 := n1_; have GW245 := n2_; have GE245 := n3_; clear n0_ n1_ n2_ n3_; clear hb hbox hg; have hcz5_0 : w4.cell? ⟨gb245, 0, none⟩ = some (.int .i64 a0_0) := aBC BK245 0; have hcz5_1 : w4.cell? ⟨gb245, 1, none⟩ = some (.slice A0_1 l0_1.length c0_1) := aBC BK245 1; have hfz5_0 := blk_frozen BK245.out 0; have hfz5_1 := blk_frozen BK245.out 1) | ((with_reducible refine gate_callee (f := 15) rfl ?_); refine goesL_ (some 16) rfl rfl Try.func15 (by kernel_rfl) rfl #[.agg #[.int .i64 a0_0, .slice A0_1 l0_1.length c0_1], .int .i64 1048576] rfl aAT ?_; (with_reducible refine (laws_szPuzzle.calls a0_0 _ _ l0_1 1048576 t246 _ ?side1 ?side2 A2.out).mono ?_); (case side1 => repeat (first | exact (Kd.C_below HR0_1.out HB.out) | (with_reducible refine Kd.C_alloc ?_ _) | (with_reducible refine Kd.C_drewN ?_ _) | (with_reducible refine Kd.C_drew ?_))); (case side2 => exact HC0_1.out); rintro e w6 ⟨rfl, hb⟩; refine ⟨_, rfl, ?_⟩; have n0_ := aBB BK245 hb; have n1_ := Aside0.mk (below_step (aHB HB) hb); clear BK245; clear HB; have BK245 := n0_; have HB := n1_; clear n0_ n1_; (try clear hb); (try clear hb2); (try clear hk); (try clear hi)))
  go_ret
  exact ⟨by first | rfl | (simp [errW_none, errW_some] <;> rfl) | (simp [*, errW_none, errW_some] <;> rfl), by exact (aHB HB)⟩
 ·rw [if_neg c3] at H
  have c3b0 : decide (t246 < 0) = false := decide_eq_false c3
  clear c3
  replace H := Option.bind_eq_some_iff.mp H
  obtain ⟨⟨t247, t248⟩, A70, H⟩ := H
  replace H : ((spec_Solutions.f k t247 t248).bind fun bt251 => ((laws_toPuzzle.f k a0_0 l0_1).bind fun bt255 => ((impl_Solutions.f k bt255.1 bt255.2).bind fun bt260 => ((laws_eqChainS.f k bt260.1 bt251.1).bind fun t264 => (if t264 = true then (laws_FnExactSolutions.j0 k bt251.1 bt251.2 bt260.1 bt260.2 (bt260.2 != bt251.2) a0_0 l0_1 bt255.1 bt255.2) else (laws_FnExactSolutions.j0 k bt251.1 bt251.2 bt260.1 bt260.2 true a0_0 l0_1 bt255.1 bt255.2)))))) = some r := H
  have A7 := Aside0.mk A70
  clear A70
  replace H := Option.bind_eq_some_iff.mp H
  obtain ⟨⟨t251, t254⟩, A80, H⟩ := H
  replace H : ((laws_toPuzzle.f k a0_0 l0_1).bind fun bt255 => ((impl_Solutions.f k bt255.1 bt255.2).bind fun bt260 => ((laws_eqChainS.f k bt260.1 t251).bind fun t264 => (if t264 = true then (laws_FnExactSolutions.j0 k t251 t254 bt260.1 bt260.2 (bt260.2 != t254) a0_0 l0_1 bt255.1 bt255.2) else (laws_FnExactSolutions.j0 k t251 t254 bt260.1 bt260.2 true a0_0 l0_1 bt255.1 bt255.2))))) = some r := H
  have A8 := Aside0.mk A80
  clear A80
  replace H := Option.bind_eq_some_iff.mp H
  obtain ⟨⟨t255, t256⟩, A90, H⟩ := H
  replace H : ((impl_Solutions.f k t255 t256).bind fun bt260 => ((laws_eqChainS.f k bt260.1 t251).bind fun t264 => (if t264 = true then (laws_FnExactSolutions.j0 k t251 t254 bt260.1 bt260.2 (bt260.2 != t254) a0_0 l0_1 t255 t256) else (laws_FnExactSolutions.j0 k t251 t254 bt260.1 bt260.2 true a0_0 l0_1 t255 t256)))) = some r := H
  have A9 := Aside0.mk A90
  clear A90
  replace H := Option.bind_eq_some_iff.mp H
  obtain ⟨⟨t260, t263⟩, A100, H⟩ := H
  replace H : ((laws_eqChainS.f k t260 t251).bind fun t264 => (if t264 = true then (laws_FnExactSolutions.j0 k t251 t254 t260 t263 (t263 != t254) a0_0 l0_1 t255 t256) else (laws_FnExactSolutions.j0 k t251 t254 t260 t263 true a0_0 l0_1 t255 t256))) = some r := H
  have A10 := Aside0.mk A100
  clear A100
  have HC11 := Aside0.mk H
  clear H
  go_enter Try.func14, Try.ntmps14
  go_upto_region 8 with (first | ((with_reducible refine gate_dst (N := 1) rfl ?_); refine box_event ?hg (N := 1) ?hd (cs := #[.int .i64 a0_0, .slice A0_1 l0_1.length c0_1]) (t := 24) ?hr ?_; (case hd => rfl); (case hg => rfl); (case hr => first | (go_simp; done) | (go_simp; rfl)); intro gb245 hg w12 hbox hb; have n0_ := Aside0.mk (below_step (aHB HB) hb); have n1_ := Aside0.mk (hbox); have n2_ := Aside0.mk ((by rw [hg]; exact (below_size (aHB HB)) : w.heap.size ≤ gb245)); have n3_ := Aside0.mk ((by rw [hg]; exact (below_size (aHB HB)) : w.heap.size ≤ gb245)); clear HB; have HB := n0_; have BK245 := n1_; have GW245 := n2_; have GE245 := n3_; clear n0_ n1_ n2_ n3_; clear hb hbox hg; have hcz13_0 : w12.cell? ⟨gb245, 0, none⟩ = some (.int .i64 a0_0) := aBC BK245 0; have hcz13_1 : w12.cell? ⟨gb245, 1, none⟩ = some (.slice A0_1 l0_1.length c0_1) := aBC BK245 1; have hfz13_0 := blk_frozen BK245.out 0; have hfz13_1 := blk_frozen BK245.out 1) | ((with_reducible refine gate_callee (f := 15) rfl ?_); refine goesL_ (some 16) rfl rfl Try.func15 (by kernel_rfl) rfl #[.agg #[.int .i64 a0_0, .slice A0_1 l0_1.length c0_1], .int .i64 1048576] rfl aAT ?_; (with_reducible refine (laws_szPuzzle.calls a0_0 _ _ l0_1 1048576 t246 _ ?side1 ?side2 A2.out).mono ?_); (case side1 => repeat (first | exact (Kd.C_below HR0_1.out HB.out) | (with_reducible refine Kd.C_alloc ?_ _) | (with_reducible refine Kd.C_drewN ?_ _) | (with_reducible refine Kd.C_drew ?_))); (case side2 => exact HC0_1.out); rintro e w14 ⟨rfl, hb⟩; refine ⟨_, rfl, ?_⟩; have n0_ := aBB BK245 hb; have n1_ := Aside0.mk (below_step (aHB HB) hb); clear BK245; clear HB; have BK245 := n0_; have HB := n1_; clear n0_ n1_; (try clear hb); (try clear hb2); (try clear hk); (try clear hi); have hcz15_0 : w14.cell? ⟨gb245, 0, none⟩ = some (.int .i64 a0_0) := aBC BK245 0; have hcz15_1 : w14.cell? ⟨gb245, 1, none⟩ = some (.slice A0_1 l0_1.length c0_1) := aBC BK245 1; have hfz15_0 := blk_frozen BK245.out 0; have hfz15_1 := blk_frozen BK245.out 1) | ((with_reducible refine gate_callee (f := 17) rfl ?_); refine goesL_ (some 21) rfl rfl Try.func17 (by kernel_rfl) rfl #[.agg #[.int .i64 a0_0, .slice A0_1 l0_1.length c0_1]] rfl aAT ?_; (with_reducible refine (laws_toPuzzle.calls k a0_0 _ _ l0_1 t247 t248 _ ?side1 ?side2 A7.out).mono ?_); (case side1 => repeat (first | exact (Kd.C_below HR0_1.out HB.out) | (with_reducible refine Kd.C_alloc ?_ _) | (with_reducible refine Kd.C_drewN ?_ _) | (with_reducible refine Kd.C_drew ?_))); (case side2 => exact HC0_1.out); rintro e w16 ⟨v249, rfl, ho0, hb⟩; refine ⟨_, rfl, ?_⟩; have n0_ := Aside0.mk (Kd.R_lower ho0 (below_size (aHB HB))); have n1_ := aBB BK245 hb; have n2_ := Aside0.mk (below_step (aHB HB) hb); clear BK245; clear HB; have HO250 := n0_; have BK245 := n1_; have HB := n2_; clear n0_ n1_ n2_; (try clear hb); (try clear hb2); (try clear hk); (try clear hi); (try clear ho0); obtain ⟨Ao17, co17, eo17⟩ := Kd.R_slice HO250.out; subst eo17) | ((with_reducible refine gate_callee (f := 48) rfl ?_); refine goesL_ (some 22) rfl rfl Try.func48 (by kernel_rfl) rfl #[.agg #[.int .i64 t247, .slice Ao17 t248.length co17]] rfl aAT ?_; (with_reducible refine (spec_Solutions.calls k t247 _ _ t248 t251 t254 _ ?side1 ?side2 A8.out).mono ?_); (case side1 => repeat (first | exact (Kd.R_reads' HO250.out).2.2 | (with_reducible refine Kd.C_alloc ?_ _) | (with_reducible refine Kd.C_drewN ?_ _) | (with_reducible refine Kd.C_drew ?_))); (case side2 => exact (Kd.R_reads' HO250.out).2.1); rintro e w18 ⟨v252, rfl, ho0, hb⟩; refine ⟨_, rfl, ?_⟩; have n0_ := Aside0.mk (Kd.R_below (aR HO250) hb); have n1_ := Aside0.mk (Kd.R_lower ho0 (below_size (aHB HB))); have n2_ := aBB BK245 hb; have n3_ := Aside0.mk (below_step (aHB HB) hb); clear HO250; clear BK245; clear HB; have HO250 := n0_; have HO253 := n1_; have BK245 := n2_; have HB := n3_; clear n0_ n1_ n2_ n3_; (try clear hb); (try clear hb2); (try clear hk); (try clear hi); (try clear ho0); have hcz19_0 : w18.cell? ⟨gb245, 0, none⟩ = some (.int .i64 a0_0) := aBC BK245 0; have hcz19_1 : w18.cell? ⟨gb245, 1, none⟩ = some (.slice A0_1 l0_1.length c0_1) := aBC BK245 1; have hfz19_0 := blk_frozen BK245.out 0; have hfz19_1 := blk_frozen BK245.out 1) | ((with_reducible refine gate_callee (f := 17) rfl ?_); refine goesL_ (some 26) rfl rfl Try.func17 (by kernel_rfl) rfl #[.agg #[.int .i64 a0_0, .slice A0_1 l0_1.length c0_1]] rfl aAT ?_; (with_reducible refine (laws_toPuzzle.calls k a0_0 _ _ l0_1 t255 t256 _ ?side1 ?side2 A9.out).mono ?_); (case side1 => repeat (first | exact (Kd.C_below HR0_1.out HB.out) | (with_reducible refine Kd.C_alloc ?_ _) | (with_reducible refine Kd.C_drewN ?_ _) | (with_reducible refine Kd.C_drew ?_))); (case side2 => exact HC0_1.out); rintro e w20 ⟨v257, rfl, ho0, hb⟩; refine ⟨_, rfl, ?_⟩; have n0_ := Aside0.mk (Kd.R_elder' (aR HO250) (Kd.R_base ho0) hb); have n1_ := Aside0.mk (Kd.R_below (aR HO253) hb); have n2_ := Aside0.mk (Kd.R_lower (Kd.R_new' ho0 (Kd.R_lt (aR HO250))) (below_size (aHB HB))); have n3_ := aBB BK245 hb; have n4_ := Aside0.mk (below_step (aHB HB) hb); clear HO250; clear HO253; clear BK245; clear HB; have HO250 := n0_; have HO253 := n1_; have HO258 := n2_; have BK245 := n3_; have HB := n4_; clear n0_ n1_ n2_ n3_ n4_; (try clear hb); (try clear hb2); (try clear hk); (try clear hi); (try clear ho0)) | ((with_reducible refine gate_dst (N := 6) rfl ?_); refine box_event ?hg (N := 6) ?hd (cs := #[.int .i64 0, .slice none 0 0]) (t := 29) ?hr ?_; (case hd => rfl); (case hg => rfl); (case hr => first | (go_simp; done) | (go_simp; rfl)); intro gb259 hg w21 hbox hb; have n0_ := Aside0.mk (Kd.R_below (aR HO250) hb); have n1_ := Aside0.mk (Kd.R_below (aR HO253) hb); have n2_ := Aside0.mk (Kd.R_below (aR HO258) hb); have n3_ := aBB BK245 hb; have n4_ := Aside0.mk (below_step (aHB HB) hb); have n5_ := Aside0.mk (hbox); have n6_ := Aside0.mk ((by rw [hg]; exact (below_size (aHB HB)) : w.heap.size ≤ gb259)); have n7_ := Aside0.mk ((by rw [hg]; exact (below_size (aHB HB)) : w.heap.size ≤ gb259)); have n8_ := Aside0.mk ((by rw [hg]; exact Nat.ne_of_lt ((aLT BK245)) : gb245 ≠ gb259)); have n9_ := Aside0.mk ((by rw [hg]; exact Nat.ne_of_gt ((aLT BK245)) : gb259 ≠ gb245)); clear HO250; clear HO253; clear HO258; clear BK245; clear HB; have HO250 := n0_; have HO253 := n1_; have HO258 := n2_; have BK245 := n3_; have HB := n4_; have BK259 := n5_; have GW259 := n6_; have GE259 := n7_; have NB245_259 := n8_; have NB259_245 := n9_; clear n0_ n1_ n2_ n3_ n4_ n5_ n6_ n7_ n8_ n9_; clear hb hbox hg; have hnb22 := NB259_245.out; have hnc22 := NB245_259.out; have hcz23_0 : w21.cell? ⟨gb259, 0, none⟩ = some (.int .i64 0) := aBC BK259 0; have hcz23_1 : w21.cell? ⟨gb259, 1, none⟩ = some (.slice none 0 0) := aBC BK259 1; have hfz23_0 := blk_frozen BK259.out 0; have hfz23_1 := blk_frozen BK259.out 1; obtain ⟨Ao24, co24, eo24⟩ := Kd.R_slice HO258.out; subst eo24) | ((with_reducible refine gate_callee (f := 49) rfl ?_); refine goesL_ (some 29) rfl rfl Try.func49 (by kernel_rfl) rfl #[.agg #[.int .i64 t255, .slice Ao24 t256.length co24]] rfl aAT ?_; (with_reducible refine (impl_Solutions.calls k t255 _ _ t256 t260 t263 _ ?side1 ?side2 A10.out).mono ?_); (case side1 => refine (Kd.R_reads' (e := 39) (base := w.heap.size) (ok := fun k_ => (True ∧ some k_ ≠ (.slice Ao17 t248.length co17 : Value).ownBlock)) (n := t256.length) (c := co24) ?_).2.2; exact (by (with_reducible repeat (first | apply Kd.R_alloc | apply Kd.R_drewN | apply Kd.R_drew)); exact (Kd.R_mono (Kd.R_far (p := ⟨gb259, 1, none⟩) (Kd.R_far (p := ⟨gb259, 0, none⟩) (Kd.R_types HO258.out BK259.out (by decide)) (fun _ hk => hk.2) (.int .i64 t255)) (fun _ hk => hk.2) (.slice Ao24 t256.length co24)) (fun _ h_ => h_.1)))); (case side2 => exact (Kd.R_reads' HO258.out).2.1); rintro e w25 ⟨v261, rfl, ho0, hb⟩; refine ⟨_, rfl, ?_⟩; have n0_ := Aside0.mk (Kd.R_below (by (with_reducible repeat (first | apply Kd.R_alloc | apply Kd.R_drewN | apply Kd.R_drew)); exact (Kd.R_mono (Kd.R_far (p := ⟨gb259, 1, none⟩) (Kd.R_far (p := ⟨gb259, 0, none⟩) (Kd.R_types HO250.out BK259.out (by decide)) (fun _ hk => hk.2) (.int .i64 t255)) (fun _ hk => hk.2) (.slice Ao24 t256.length co24)) (fun _ h_ => h_.1))) hb); have n1_ := Aside0.mk (Kd.R_elder' (by (with_reducible repeat (first | apply Kd.R_alloc | apply Kd.R_drewN | apply Kd.R_drew)); exact (Kd.R_mono (Kd.R_far (p := ⟨gb259, 1, none⟩) (Kd.R_far (p := ⟨gb259, 0, none⟩) (Kd.R_types HO253.out BK259.out (by decide)) (fun _ hk => hk.2) (.int .i64 t255)) (fun _ hk => hk.2) (.slice Ao24 t256.length co24)) (fun _ h_ => h_.1))) (Kd.R_base ho0) hb); have n2_ := Aside0.mk (Kd.R_below (by (with_reducible repeat (first | apply Kd.R_alloc | apply Kd.R_drewN | apply Kd.R_drew)); exact (Kd.R_mono (Kd.R_far (p := ⟨gb259, 1, none⟩) (Kd.R_far (p := ⟨gb259, 0, none⟩) (Kd.R_types HO258.out BK259.out (by decide)) (fun _ hk => hk.2) (.int .i64 t255)) (fun _ hk => hk.2) (.slice Ao24 t256.length co24)) (fun _ h_ => h_.1))) hb); have n3_ := Aside0.mk (Kd.R_lower (Kd.R_new' ho0 (Kd.R_lt (by (with_reducible repeat (first | apply Kd.R_alloc | apply Kd.R_drewN | apply Kd.R_drew)); exact (Kd.R_mono (Kd.R_far (p := ⟨gb259, 1, none⟩) (Kd.R_far (p := ⟨gb259, 0, none⟩) (Kd.R_types HO253.out BK259.out (by decide)) (fun _ hk => hk.2) (.int .i64 t255)) (fun _ hk => hk.2) (.slice Ao24 t256.length co24)) (fun _ h_ => h_.1))))) (below_size (aHB HB))); have n4_ := aBB BK245 hb; have n5_ := Aside0.mk (blk_below (g := gb259) (o := .cells #[.int .i64 t255, .slice Ao24 t256.length co24] 29 (0, 0)) (by (with_reducible repeat (first | refine blk_drewN ?_ _ | refine blk_drew ?_ | refine blk_alloc ?_ _)); refine blk_put (cs := #[.int .i64 t255, .slice none 0 0]) ?_ 1 _ rfl; (with_reducible repeat (first | refine blk_drewN ?_ _ | refine blk_drew ?_ | refine blk_alloc ?_ _)); refine blk_put (cs := #[.int .i64 0, .slice none 0 0]) ?_ 0 _ rfl; exact (aLB BK259)) hb); have n6_ := Aside0.mk (below_step (aHB HB) hb); clear HO250; clear HO253; clear HO258; clear BK245; clear BK259; clear HB; have HO250 := n0_; have HO253 := n1_; have HO258 := n2_; have HO262 := n3_; have BK245 := n4_; have BK259 := n5_; have HB := n6_; clear n0_ n1_ n2_ n3_ n4_ n5_ n6_; (try clear hb); (try clear hb2); (try clear hk); (try clear hi); (try clear ho0)))
  (try simp only [Act.put, List.setIfInBounds_toArray, List.set_cons_zero, List.set_cons_succ])
  go_cut [40] (fun v40 wc => ∃ (kq : Nat) (x40_10 : Bool), v40 = .bool x40_10 ∧ Aside0 (laws_FnExactSolutions.j0 kq t251 t254 t260 t263 x40_10 a0_0 l0_1 t255 t256 = some r) ∧ Aside0 (kq ≤ k) ∧ Aside0 (Kd.R k41 41 wc w.heap.size (fun k_ => some k_ ≠ (v261 : Value).ownBlock) v252 t251) ∧ Aside0 (Kd.R k41 41 wc w.heap.size (fun k_ => some k_ ≠ (v252 : Value).ownBlock) v261 t260) ∧ Aside0 (Kd.R k39 39 wc w.heap.size (fun _ => True) (.slice Ao24 t256.length co24) t256) ∧ Aside0 (wc.heap[gb245]? = some (.cells #[.int .i64 a0_0, (.slice A0_1 l0_1.length c0_1)] 24 (0, 0))) ∧ Aside0 (wc.heap[gb259]? = some (.cells #[.int .i64 t255, (.slice Ao24 t256.length co24)] 29 (0, 0))) ∧ Aside0 (Below w.heap.size w wc))
  case first =>
   have H := HC11.out
   clear HC11
   replace H := Option.bind_eq_some_iff.mp H
   obtain ⟨t264, A260, H⟩ := H
   replace H : (if t264 = true then (laws_FnExactSolutions.j0 k t251 t254 t260 t263 (t263 != t254) a0_0 l0_1 t255 t256) else (laws_FnExactSolutions.j0 k t251 t254 t260 t263 true a0_0 l0_1 t255 t256)) = some r := H
   have A26 := Aside0.mk A260
   clear A260
   by_cases c27 : t264 = true
   ·subst c27
    have H1 : (laws_FnExactSolutions.j0 k t251 t254 t260 t263 (t263 != t254) a0_0 l0_1 t255 t256) = some r := by rw [if_pos rfl] at H; exact H
    clear H
    have H := H1
    clear H1
    have H' := Aside0.mk H
    clear H
    obtain ⟨Ao28, co28, eo28⟩ := Kd.R_slice HO262.out
    subst eo28
    obtain ⟨Ao29, co29, eo29⟩ := Kd.R_slice HO253.out
    subst eo29
    go_wp2_with (first | ((with_reducible refine gate_callee (f := 50) rfl ?_); refine goesL_ (some 34) rfl rfl Try.func50 (by kernel_rfl) rfl #[.slice Ao28 t260.length co28, .slice Ao29 t251.length co29] rfl aAT ?_; (with_reducible refine (laws_eqChainS.calls k _ _ t260 _ _ t251 true _ ?side1 ?side2 ?side3 ?side4 A26.out).mono ?_); (case side1 => repeat (first | exact (Kd.R_reads' HO262.out).2.2 | (with_reducible refine Kd.C_alloc ?_ _) | (with_reducible refine Kd.C_drewN ?_ _) | (with_reducible refine Kd.C_drew ?_))); (case side2 => exact (Kd.R_reads' HO262.out).2.1); (case side3 => repeat (first | exact (Kd.R_reads' HO253.out).2.2 | (with_reducible refine Kd.C_alloc ?_ _) | (with_reducible refine Kd.C_drewN ?_ _) | (with_reducible refine Kd.C_drew ?_))); (case side4 => exact (Kd.R_reads' HO253.out).2.1); rintro e w30 ⟨rfl, hb⟩; refine ⟨_, rfl, ?_⟩; have n0_ := Aside0.mk (Kd.R_below (aR HO250) hb); have n1_ := Aside0.mk (Kd.R_below (aR HO253) hb); have n2_ := Aside0.mk (Kd.R_below (aR HO258) hb); have n3_ := Aside0.mk (Kd.R_below (aR HO262) hb); have n4_ := aBB BK245 hb; have n5_ := aBB BK259 hb; have n6_ := Aside0.mk (below_step (aHB HB) hb); clear HO250; clear HO253; clear HO258; clear HO262; clear BK245; clear BK259; clear HB; have HO250 := n0_; have HO253 := n1_; have HO258 := n2_; have HO262 := n3_; have BK245 := n4_; have BK259 := n5_; have HB := n6_; clear n0_ n1_ n2_ n3_ n4_ n5_ n6_; (try clear hb); (try clear hb2); (try clear hk); (try clear hi)))
    go_meet
    case rel => exact ⟨_, ((t263 != t254)), (by first | rfl | (simp; done) | (simp [*]; done)), H', ⟨by first | omega | exact Nat.le_refl _⟩, ⟨by (with_reducible repeat (first | apply Kd.R_alloc | apply Kd.R_drewN | apply Kd.R_drew)); exact Kd.R_mono HO253.out (fun _ hk => hk.2)⟩, ⟨by (with_reducible repeat (first | apply Kd.R_alloc | apply Kd.R_drewN | apply Kd.R_drew)); exact Kd.R_mono HO262.out (fun _ hk => hk.2)⟩, ⟨by (with_reducible repeat (first | apply Kd.R_alloc | apply Kd.R_drewN | apply Kd.R_drew)); exact Kd.R_mono HO258.out (fun _ hk => trivial)⟩, ⟨(aLB BK245)⟩, ⟨(aLB BK259)⟩, ⟨by exact (aHB HB)⟩⟩
   ·replace c27 := Bool.eq_false_iff.mpr c27
    subst c27
    have H1 : (laws_FnExactSolutions.j0 k t251 t254 t260 t263 true a0_0 l0_1 t255 t256) = some r := by rw [if_neg (show ¬ (false = true) by decide)] at H; exact H
    clear H
    have H := H1
    clear H1
    have H' := Aside0.mk H
    clear H
    obtain ⟨Ao31, co31, eo31⟩ := Kd.R_slice HO262.out
    subst eo31
    obtain ⟨Ao32, co32, eo32⟩ := Kd.R_slice HO253.out
    subst eo32
    go_wp2_with (first | ((with_reducible refine gate_callee (f := 50) rfl ?_); refine goesL_ (some 34) rfl rfl Try.func50 (by kernel_rfl) rfl #[.slice Ao31 t260.length co31, .slice Ao32 t251.length co32] rfl aAT ?_; (with_reducible refine (laws_eqChainS.calls k _ _ t260 _ _ t251 false _ ?side1 ?side2 ?side3 ?side4 A26.out).mono ?_); (case side1 => repeat (first | exact (Kd.R_reads' HO262.out).2.2 | (with_reducible refine Kd.C_alloc ?_ _) | (with_reducible refine Kd.C_drewN ?_ _) | (with_reducible refine Kd.C_drew ?_))); (case side2 => exact (Kd.R_reads' HO262.out).2.1); (case side3 => repeat (first | exact (Kd.R_reads' HO253.out).2.2 | (with_reducible refine Kd.C_alloc ?_ _) | (with_reducible refine Kd.C_drewN ?_ _) | (with_reducible refine Kd.C_drew ?_))); (case side4 => exact (Kd.R_reads' HO253.out).2.1); rintro e w33 ⟨rfl, hb⟩; refine ⟨_, rfl, ?_⟩; have n0_ := Aside0.mk (Kd.R_below (aR HO250) hb); have n1_ := Aside0.mk (Kd.R_below (aR HO253) hb); have n2_ := Aside0.mk (Kd.R_below (aR HO258) hb); have n3_ := Aside0.mk (Kd.R_below (aR HO262) hb); have n4_ := aBB BK245 hb; have n5_ := aBB BK259 hb; have n6_ := Aside0.mk (below_step (aHB HB) hb); clear HO250; clear HO253; clear HO258; clear HO262; clear BK245; clear BK259; clear HB; have HO250 := n0_; have HO253 := n1_; have HO258 := n2_; have HO262 := n3_; have BK245 := n4_; have BK259 := n5_; have HB := n6_; clear n0_ n1_ n2_ n3_ n4_ n5_ n6_; (try clear hb); (try clear hb2); (try clear hk); (try clear hi)))
    go_meet
    case rel => exact ⟨_, (true), (by first | rfl | (simp; done) | (simp [*]; done)), H', ⟨by first | omega | exact Nat.le_refl _⟩, ⟨by (with_reducible repeat (first | apply Kd.R_alloc | apply Kd.R_drewN | apply Kd.R_drew)); exact Kd.R_mono HO253.out (fun _ hk => hk.2)⟩, ⟨by (with_reducible repeat (first | apply Kd.R_alloc | apply Kd.R_drewN | apply Kd.R_drew)); exact Kd.R_mono HO262.out (fun _ hk => hk.2)⟩, ⟨by (with_reducible repeat (first | apply Kd.R_alloc | apply Kd.R_drewN | apply Kd.R_drew)); exact Kd.R_mono HO258.out (fun _ hk => trivial)⟩, ⟨(aLB BK245)⟩, ⟨(aLB BK259)⟩, ⟨by exact (aHB HB)⟩⟩
  case rest =>
   clear HC11
   try clear c1
   try clear c2
   try clear p2
   try clear c3
   try clear c3b0
   try clear c4
   try clear c5
   try clear c14
   try clear c15
   try clear c17
   try clear c22
   try clear c27
   try clear hcz13_0
   try clear hcz13_1
   try clear hcz15_0
   try clear hcz15_1
   try clear hcz19_0
   try clear hcz19_1
   try clear hcz23_0
   try clear hcz23_1
   try clear hcz5_0
   try clear hcz5_1
   try clear hfz13_0
   try clear hfz13_1
   try clear hfz15_0
   try clear hfz15_1
   try clear hfz19_0
   try clear hfz19_1
   try clear hfz23_0
   try clear hfz23_1
   try clear hfz5_0
   try clear hfz5_1
   obtain ⟨kq, x40_10, rfl, HA, HJ10, HO_4, HO_7, HO_260001, BK245, BK259, HB⟩ := hcut
   cases kq with
   | zero => exact absurd HA.out (by simp [laws_FnExactSolutions.j0])
   | succ kj10 =>
    have H := HA.out
    clear HA
    simp only [laws_FnExactSolutions.j0] at H
    by_cases c34 : x40_10 = true
    ·subst c34
     have H1 : (some false) = some r := by rw [if_pos rfl] at H; exact H
     clear H
     have H := H1
     clear H1
     obtain rfl := Option.some.inj H
     go_wp2
     go_ret
     exact ⟨by first | rfl | (simp [errW_none, errW_some] <;> rfl) | (simp [*, errW_none, errW_some] <;> rfl), by exact (aHB HB)⟩
    ·replace c34 := Bool.eq_false_iff.mpr c34
     subst c34
     have H1 : ((laws_toPuzzle.f kj10 a0_0 l0_1).bind fun bt265 => ((laws_eqPuzzle.f kj10 t255 t256 bt265.1 bt265.2).bind fun t269 => (if t269 = true then ((laws_markPuzzle.f kj10 t255 t256 1).bind fun bt270 => (if bt270.1 < 0 then (laws_FnExactSolutions.j1 kj10 t251 t254 t260 true a0_0 l0_1) else ((laws_eqChainS.f kj10 t260 t251).bind fun t272 => (if t272 = true then (laws_FnExactSolutions.j1 kj10 t251 t254 t260 (t263 != t254) a0_0 l0_1) else (laws_FnExactSolutions.j1 kj10 t251 t254 t260 true a0_0 l0_1))))) else (some false)))) = some r := by rw [if_neg (show ¬ (false = true) by decide)] at H; exact H
     clear H
     have H := H1
     clear H1
     replace H := Option.bind_eq_some_iff.mp H
     obtain ⟨⟨t265, t266⟩, A350, H⟩ := H
     replace H : ((laws_eqPuzzle.f kj10 t255 t256 t265 t266).bind fun t269 => (if t269 = true then ((laws_markPuzzle.f kj10 t255 t256 1).bind fun bt270 => (if bt270.1 < 0 then (laws_FnExactSolutions.j1 kj10 t251 t254 t260 true a0_0 l0_1) else ((laws_eqChainS.f kj10 t260 t251).bind fun t272 => (if t272 = true then (laws_FnExactSolutions.j1 kj10 t251 t254 t260 (t263 != t254) a0_0 l0_1) else (laws_FnExactSolutions.j1 kj10 t251 t254 t260 true a0_0 l0_1))))) else (some false))) = some r := H
     have A35 := Aside0.mk A350
     clear A350
     replace H := Option.bind_eq_some_iff.mp H
     obtain ⟨t269, A360, H⟩ := H
     replace H : (if t269 = true then ((laws_markPuzzle.f kj10 t255 t256 1).bind fun bt270 => (if bt270.1 < 0 then (laws_FnExactSolutions.j1 kj10 t251 t254 t260 true a0_0 l0_1) else ((laws_eqChainS.f kj10 t260 t251).bind fun t272 => (if t272 = true then (laws_FnExactSolutions.j1 kj10 t251 t254 t260 (t263 != t254) a0_0 l0_1) else (laws_FnExactSolutions.j1 kj10 t251 t254 t260 true a0_0 l0_1))))) else (some false)) = some r := H
     have A36 := Aside0.mk A360
     clear A360
     by_cases c37 : t269 = true
     ·subst c37
      have H1 : ((laws_markPuzzle.f kj10 t255 t256 1).bind fun bt270 => (if bt270.1 < 0 then (laws_FnExactSolutions.j1 kj10 t251 t254 t260 true a0_0 l0_1) else ((laws_eqChainS.f kj10 t260 t251).bind fun t272 => (if t272 = true then (laws_FnExactSolutions.j1 kj10 t251 t254 t260 (t263 != t254) a0_0 l0_1) else (laws_FnExactSolutions.j1 kj10 t251 t254 t260 true a0_0 l0_1))))) = some r := by rw [if_pos rfl] at H; exact H
      clear H
      have H := H1
      clear H1
      replace H := Option.bind_eq_some_iff.mp H
      obtain ⟨⟨t270, t271⟩, A380, H⟩ := H
      replace H : (if t270 < 0 then (laws_FnExactSolutions.j1 kj10 t251 t254 t260 true a0_0 l0_1) else ((laws_eqChainS.f kj10 t260 t251).bind fun t272 => (if t272 = true then (laws_FnExactSolutions.j1 kj10 t251 t254 t260 (t263 != t254) a0_0 l0_1) else (laws_FnExactSolutions.j1 kj10 t251 t254 t260 true a0_0 l0_1)))) = some r := H
      have A38 := Aside0.mk A380
      clear A380
      have HC39 := Aside0.mk H
      clear H
      try go_wp2
      have n0_ := Aside0.mk (Kd.R_drew HO_4.out)
      have n1_ := Aside0.mk (Kd.R_drew HO_7.out)
      have n2_ := Aside0.mk (Kd.R_drew HO_260001.out)
      have n3_ := Aside0.mk (blk_drew BK245.out)
      have n4_ := Aside0.mk (blk_drew BK259.out)
      have n5_ := Aside0.mk (below_drew1 HB.out)
      clear HO_4 HO_7 HO_260001 BK245 BK259 HB
      have HO_4 := n0_
      have HO_7 := n1_
      have HO_260001 := n2_
      have BK245 := n3_
      have BK259 := n4_
      have HB := n5_
      clear n0_ n1_ n2_ n3_ n4_ n5_
      refine start_ (n := 5) (S := fun w' => w'.cell? ⟨gb259, 0, none⟩ = some (.int .i64 t255) ∧ w'.cell? ⟨gb259, 1, none⟩ = some (.slice Ao24 t256.length co24) ∧ w'.cell? ⟨gb245, 0, none⟩ = some (.int .i64 a0_0) ∧ w'.cell? ⟨gb245, 1, none⟩ = some (.slice A0_1 l0_1.length c0_1)) (ds := []) #[false, false, false, false, false] (by kernel_rfl) rfl rfl ⟨aBC BK259 0, aBC BK259 1, aBC BK245 0, aBC BK245 1⟩ (fun hHeld => ?_)
      generalize wc.drew = w40 at HO_4 HO_7 HO_260001 BK245 BK259 HB hHeld ⊢
      refine take_ (i := 0) (N := some 41) (v := ?_) (a' := ?_) #[true, false, false, false, false] rfl rfl (by kernel_rfl) (fun _ _ _ h => h) (Or.inl ⟨by rfl, ?_⟩) hHeld ?_ ?_
      rotate_left
      ·rintro w' ⟨s0, s1, s2, s3⟩
       go_simp
       with_reducible rfl
      rotate_left
      ·simp only [Act.put, List.setIfInBounds_toArray, List.set_cons_zero, List.set_cons_succ, i64_w, i32_w]
       rfl
      refine take_ (i := 1) (N := some 42) (v := ?_) (a' := ?_) #[true, true, false, false, false] rfl rfl (by kernel_rfl) (fun _ _ _ h => h) (Or.inl ⟨by rfl, ?_⟩) hHeld ?_ ?_
      rotate_left
      ·rintro w' ⟨s0, s1, s2, s3⟩
       go_simp
       with_reducible rfl
      rotate_left
      ·simp only [Act.put, List.setIfInBounds_toArray, List.set_cons_zero, List.set_cons_succ, i64_w, i32_w]
       rfl
      refine one_ (i := 2) (N := some 43) #[true, true, true, false, false] rfl rfl (by kernel_rfl) (by decide) (fun K hK => ?_)
      refine goes_ Try.func17 (by kernel_rfl) rfl #[.agg #[.int .i64 a0_0, .slice A0_1 l0_1.length c0_1]] (by rfl) rfl rfl aAT ?_
      with_reducible refine (laws_toPuzzle.calls kj10 a0_0 _ _ l0_1 t265 t266 _ ?side1 ?side2 A35.out).mono ?_
      (case side1 => repeat (first | exact (Kd.C_below HR0_1.out HB.out) | (with_reducible refine Kd.C_alloc ?_ _) | (with_reducible refine Kd.C_drewN ?_ _) | (with_reducible refine Kd.C_drew ?_)))
      (case side2 => exact HC0_1.out)
      rintro e w41 ⟨v267, rfl, ho0, hb⟩
      refine ⟨_, rfl, ?_⟩
      have n0_ := Aside0.mk (Kd.R_below (aR HO_4) hb)
      have n1_ := Aside0.mk (Kd.R_below (aR HO_7) hb)
      have n2_ := Aside0.mk (Kd.R_elder' (aR HO_260001) (Kd.R_base ho0) hb)
      have n3_ := Aside0.mk (Kd.R_lower (Kd.R_new' ho0 (Kd.R_lt (aR HO_260001))) (below_size (aHB HB)))
      have n4_ := aBB BK245 hb
      have n5_ := aBB BK259 hb
      have n6_ := Aside0.mk (below_step (aHB HB) hb)
      clear HO_4 HO_7 HO_260001 BK245 BK259 HB
      have HO_4 := n0_
      have HO_7 := n1_
      have HO_260001 := n2_
      have HO268 := n3_
      have BK245 := n4_
      have BK259 := n5_
      have HB := n6_
      clear n0_ n1_ n2_ n3_ n4_ n5_ n6_
      (try clear hb)
      (try clear hb2)
      (try clear hk)
      (try clear hi)
      (try clear ho0)
      obtain ⟨Ao42, co42, eo42⟩ := Kd.R_slice HO268.out
      (first | subst eo42 | (injection eo42 with f1_ f2_ f3_; have f4_ := f1_.symm; have f5_ := f3_.symm; clear f1_ f2_ f3_; subst f4_; subst f5_))
      refine hK.out _ _ ⟨aBC BK259 0, aBC BK259 1, aBC BK245 0, aBC BK245 1⟩ (fun hHeld => ?_)
      clear hK K
      refine norm_ (a' := ?_) ?_ ?_
      rotate_left
      ·show Act.put _ (some 43) _ = _
       simp only [Act.put, List.setIfInBounds_toArray, List.set_cons_zero, List.set_cons_succ, i64_w, i32_w]
       rfl
      refine one_ (i := 3) (N := some 44) #[true, true, true, true, false] rfl rfl (by kernel_rfl) (by decide) (fun K hK => ?_)
      refine goes_ Try.func19 (by kernel_rfl) rfl #[.agg #[.int .i64 t255, .slice Ao24 t256.length co24], .agg #[.int .i64 t265, .slice Ao42 t266.length co42]] (by rfl) rfl rfl aAT ?_
      with_reducible refine (laws_eqPuzzle.calls kj10 t255 _ _ t256 t265 _ _ t266 true _ ?side1 ?side2 ?side3 ?side4 A36.out).mono ?_
      (case side1 => repeat (first | exact (Kd.R_reads' HO_260001.out).2.2 | (with_reducible refine Kd.C_alloc ?_ _) | (with_reducible refine Kd.C_drewN ?_ _) | (with_reducible refine Kd.C_drew ?_)))
      (case side2 => exact (Kd.R_reads' HO_260001.out).2.1)
      (case side3 => repeat (first | exact (Kd.R_reads' HO268.out).2.2 | (with_reducible refine Kd.C_alloc ?_ _) | (with_reducible refine Kd.C_drewN ?_ _) | (with_reducible refine Kd.C_drew ?_)))
      (case side4 => exact (Kd.R_reads' HO268.out).2.1)
      rintro e w43 ⟨rfl, hb⟩
      refine ⟨_, rfl, ?_⟩
      have n0_ := Aside0.mk (Kd.R_below (aR HO_4) hb)
      have n1_ := Aside0.mk (Kd.R_below (aR HO_7) hb)
      have n2_ := Aside0.mk (Kd.R_below (aR HO_260001) hb)
      have n3_ := Aside0.mk (Kd.R_below (aR HO268) hb)
      have n4_ := aBB BK245 hb
      have n5_ := aBB BK259 hb
      have n6_ := Aside0.mk (below_step (aHB HB) hb)
      clear HO_4 HO_7 HO_260001 HO268 BK245 BK259 HB
      have HO_4 := n0_
      have HO_7 := n1_
      have HO_260001 := n2_
      have HO268 := n3_
      have BK245 := n4_
      have BK259 := n5_
      have HB := n6_
      clear n0_ n1_ n2_ n3_ n4_ n5_ n6_
      (try clear hb)
      (try clear hb2)
      (try clear hk)
      (try clear hi)
      refine hK.out _ _ ⟨aBC BK259 0, aBC BK259 1, aBC BK245 0, aBC BK245 1⟩ (fun hHeld => ?_)
      clear hK K
      refine norm_ (a' := ?_) ?_ ?_
      rotate_left
      ·show Act.put _ (some 44) _ = _
       simp only [Act.put, List.setIfInBounds_toArray, List.set_cons_zero, List.set_cons_succ, i64_w, i32_w]
       rfl
      refine pure_ (i := 4) (N := some 45) (v := ?_) (a' := ?_) #[true, true, true, true, true] rfl rfl (by kernel_rfl) (fun _ _ _ h => h) (Or.inl ⟨by rfl, ?_⟩) ?_ ?_
      rotate_left
      ·intro w'
       go_simp
       with_reducible rfl
      rotate_left
      ·simp only [Act.put, List.setIfInBounds_toArray, List.set_cons_zero, List.set_cons_succ, i64_w, i32_w]
       rfl
      refine done_ (by kernel_rfl) ?_
      have hnb44 := NB259_245.out
      have hnc44 := NB245_259.out
      have hcz45_0 : w43.cell? ⟨gb259, 0, none⟩ = some (.int .i64 t255) := aBC BK259 0
      have hcz45_1 : w43.cell? ⟨gb259, 1, none⟩ = some (.slice Ao24 t256.length co24) := aBC BK259 1
      have hfz45_0 := blk_frozen BK259.out 0
      have hfz45_1 := blk_frozen BK259.out 1
      go_upto_region 14 with (first | ((with_reducible refine gate_callee (f := 26) rfl ?_); refine goesL_ (some 48) rfl rfl Try.func26 (by kernel_rfl) rfl #[.agg #[.int .i64 t255, .slice Ao24 t256.length co24], .int .i64 1] rfl aAT ?_; (with_reducible refine (laws_markPuzzle.calls kj10 t255 (fun k_ => some k_ = (.slice Ao24 t256.length co24 : Value).ownBlock) (.slice Ao24 t256.length co24) t256 1 t270 t271 w _ ?side1 ?side2 A38.out).mono ?_); (case side1 => exact (aHB HB)); (case side2 => exact Kd.R_tight rfl HO_260001.out); rintro e w46 ⟨rfl, hy0, hb, hkp⟩; refine ⟨_, rfl, ?_⟩; have n0_ := Aside0.mk (Kd.R_mono (ok' := fun k_ => some k_ ≠ (v261 : Value).ownBlock) (Kd.R_keptB ((Kd.R_apart' HO_4.out (Kd.R_typed HO_260001.out) (by decide))) hkp (fun k_ hk_ hs_ => (hk_.2) hs_)) (fun k_ hk_ => hk_.1.1)); have n1_ := Aside0.mk (Kd.R_mono (ok' := fun k_ => some k_ ≠ (v252 : Value).ownBlock) (Kd.R_keptB ((Kd.R_apart' HO_7.out (Kd.R_typed HO_260001.out) (by decide))) hkp (fun k_ hk_ hs_ => (hk_.2) hs_)) (fun k_ hk_ => hk_.1.1)); have n2_ := Aside0.mk (Kd.R_reok rfl hy0 (fun k_ e_ => HO_260001.out.1 k_ e_)); have n3_ := Aside0.mk (blk_kept (aLB BK245) hkp (fun hs_ => (fun e_ => (Kd.R_ne HO_260001.out BK245.out (by decide)) e_) hs_)); have n4_ := Aside0.mk (blk_kept (aLB BK259) hkp (fun hs_ => (fun e_ => (Kd.R_ne HO_260001.out BK259.out (by decide)) e_) hs_)); have n5_ := Aside0.mk (Kd.R_mono (ok' := fun k_ => some k_ ≠ (.slice Ao24 t256.length co24 : Value).ownBlock) (Kd.R_keptB (HO268.out) hkp (fun k_ hk_ hs_ => (hk_.2) hs_)) (fun k_ hk_ => hk_.1.2)); have n6_ := Aside0.mk (hb); clear HO_4; clear HO_7; clear HO_260001; clear BK245; clear BK259; clear HO268; clear HB; have HO_4 := n0_; have HO_7 := n1_; have HO_260001 := n2_; have BK245 := n3_; have BK259 := n4_; have HO268 := n5_; have HB := n6_; clear n0_ n1_ n2_ n3_ n4_ n5_ n6_; (try clear hb); (try clear hkp); (try clear hy0)))
      (try simp only [Act.put, List.setIfInBounds_toArray, List.set_cons_zero, List.set_cons_succ])
      go_cut [61] (fun v61 wc => ∃ (kq : Nat) (x61_38 : Bool), v61 = .bool x61_38 ∧ Aside0 (laws_FnExactSolutions.j1 kq t251 t254 t260 x61_38 a0_0 l0_1 = some r) ∧ Aside0 (kq ≤ kj10) ∧ Aside0 (Kd.R k41 41 wc w.heap.size (fun k_ => some k_ ≠ (v261 : Value).ownBlock) v252 t251) ∧ Aside0 (Kd.R k41 41 wc w.heap.size (fun k_ => some k_ ≠ (v252 : Value).ownBlock) v261 t260) ∧ Aside0 (Kd.R k39 39 wc w.heap.size (fun _ => True) (.slice Ao24 t256.length co24) t271) ∧ Aside0 (wc.heap[gb245]? = some (.cells #[.int .i64 a0_0, (.slice A0_1 l0_1.length c0_1)] 24 (0, 0))) ∧ Aside0 (wc.heap[gb259]? = some (.cells #[.int .i64 t255, (.slice Ao24 t256.length co24)] 29 (0, 0))) ∧ Aside0 (Below w.heap.size w wc))
      case first =>
       have H := HC39.out
       clear HC39
       by_cases c47 : t270 < 0
       ·rw [if_pos c47] at H
        have c47b0 : decide (t270 < 0) = true := decide_eq_true c47
        clear c47
        (first | rw [c47b0] | (simp only [i64_w, i32_w]; rw [c47b0]) | skip)
        have H' := Aside0.mk H
        clear H
        go_wp2
        go_meet
        case rel => exact ⟨_, (true), (by first | rfl | (simp; done) | (simp [*]; done)), H', ⟨by have := HJ10.out; first | omega | exact Nat.le_refl _⟩, ⟨by (with_reducible repeat (first | apply Kd.R_alloc | apply Kd.R_drewN | apply Kd.R_drew)); exact HO_4.out⟩, ⟨by (with_reducible repeat (first | apply Kd.R_alloc | apply Kd.R_drewN | apply Kd.R_drew)); exact HO_7.out⟩, ⟨by (with_reducible repeat (first | apply Kd.R_alloc | apply Kd.R_drewN | apply Kd.R_drew)); exact Kd.R_mono HO_260001.out (fun _ hk => trivial)⟩, ⟨(aLB BK245)⟩, ⟨(aLB BK259)⟩, ⟨by exact (aHB HB)⟩⟩
       ·rw [if_neg c47] at H
        have c47b0 : decide (t270 < 0) = false := decide_eq_false c47
        clear c47
        (first | rw [c47b0] | (simp only [i64_w, i32_w]; rw [c47b0]) | skip)
        replace H := Option.bind_eq_some_iff.mp H
        obtain ⟨t272, A480, H⟩ := H
        replace H : (if t272 = true then (laws_FnExactSolutions.j1 kj10 t251 t254 t260 (t263 != t254) a0_0 l0_1) else (laws_FnExactSolutions.j1 kj10 t251 t254 t260 true a0_0 l0_1)) = some r := H
        have A48 := Aside0.mk A480
        clear A480
        by_cases c49 : t272 = true
        ·subst c49
         have H1 : (laws_FnExactSolutions.j1 kj10 t251 t254 t260 (t263 != t254) a0_0 l0_1) = some r := by rw [if_pos rfl] at H; exact H
         clear H
         have H := H1
         clear H1
         have H' := Aside0.mk H
         clear H
         obtain ⟨Ao50, co50, eo50⟩ := Kd.R_slice HO_7.out
         subst eo50
         obtain ⟨Ao51, co51, eo51⟩ := Kd.R_slice HO_4.out
         subst eo51
         go_wp2_with (first | (go_at_call 50; (with_reducible refine (laws_eqChainS.calls kj10 _ _ t260 _ _ t251 true _ ?side1 ?side2 ?side3 ?side4 A48.out).mono ?_); (case side1 => repeat (first | exact (Kd.R_reads' HO_7.out).2.2 | (with_reducible refine Kd.C_alloc ?_ _) | (with_reducible refine Kd.C_drewN ?_ _) | (with_reducible refine Kd.C_drew ?_))); (case side2 => exact (Kd.R_reads' HO_7.out).2.1); (case side3 => repeat (first | exact (Kd.R_reads' HO_4.out).2.2 | (with_reducible refine Kd.C_alloc ?_ _) | (with_reducible refine Kd.C_drewN ?_ _) | (with_reducible refine Kd.C_drew ?_))); (case side4 => exact (Kd.R_reads' HO_4.out).2.1); rintro e w52 ⟨rfl, hb⟩; have n0_ := Aside0.mk (Kd.R_below (aR HO_4) hb); have n1_ := Aside0.mk (Kd.R_below (aR HO_7) hb); have n2_ := Aside0.mk (Kd.R_below (aR HO_260001) hb); have n3_ := Aside0.mk (Kd.R_below (aR HO268) hb); have n4_ := aBB BK245 hb; have n5_ := aBB BK259 hb; have n6_ := Aside0.mk (below_step (aHB HB) hb); clear HO_4; clear HO_7; clear HO_260001; clear HO268; clear BK245; clear BK259; clear HB; have HO_4 := n0_; have HO_7 := n1_; have HO_260001 := n2_; have HO268 := n3_; have BK245 := n4_; have BK259 := n5_; have HB := n6_; clear n0_ n1_ n2_ n3_ n4_ n5_ n6_; (try clear hb); (try clear hb2); (try clear hk); (try clear hi)))
         go_meet
         case rel => exact ⟨_, ((t263 != t254)), (by first | rfl | (simp; done) | (simp [*]; done)), H', ⟨by have := HJ10.out; first | omega | exact Nat.le_refl _⟩, ⟨by (with_reducible repeat (first | apply Kd.R_alloc | apply Kd.R_drewN | apply Kd.R_drew)); exact HO_4.out⟩, ⟨by (with_reducible repeat (first | apply Kd.R_alloc | apply Kd.R_drewN | apply Kd.R_drew)); exact HO_7.out⟩, ⟨by (with_reducible repeat (first | apply Kd.R_alloc | apply Kd.R_drewN | apply Kd.R_drew)); exact Kd.R_mono HO_260001.out (fun _ hk => trivial)⟩, ⟨(aLB BK245)⟩, ⟨(aLB BK259)⟩, ⟨by exact (aHB HB)⟩⟩
        ·replace c49 := Bool.eq_false_iff.mpr c49
         subst c49
         have H1 : (laws_FnExactSolutions.j1 kj10 t251 t254 t260 true a0_0 l0_1) = some r := by rw [if_neg (show ¬ (false = true) by decide)] at H; exact H
         clear H
         have H := H1
         clear H1
         have H' := Aside0.mk H
         clear H
         obtain ⟨Ao53, co53, eo53⟩ := Kd.R_slice HO_7.out
         subst eo53
         obtain ⟨Ao54, co54, eo54⟩ := Kd.R_slice HO_4.out
         subst eo54
         go_wp2_with (first | (go_at_call 50; (with_reducible refine (laws_eqChainS.calls kj10 _ _ t260 _ _ t251 false _ ?side1 ?side2 ?side3 ?side4 A48.out).mono ?_); (case side1 => repeat (first | exact (Kd.R_reads' HO_7.out).2.2 | (with_reducible refine Kd.C_alloc ?_ _) | (with_reducible refine Kd.C_drewN ?_ _) | (with_reducible refine Kd.C_drew ?_))); (case side2 => exact (Kd.R_reads' HO_7.out).2.1); (case side3 => repeat (first | exact (Kd.R_reads' HO_4.out).2.2 | (with_reducible refine Kd.C_alloc ?_ _) | (with_reducible refine Kd.C_drewN ?_ _) | (with_reducible refine Kd.C_drew ?_))); (case side4 => exact (Kd.R_reads' HO_4.out).2.1); rintro e w55 ⟨rfl, hb⟩; have n0_ := Aside0.mk (Kd.R_below (aR HO_4) hb); have n1_ := Aside0.mk (Kd.R_below (aR HO_7) hb); have n2_ := Aside0.mk (Kd.R_below (aR HO_260001) hb); have n3_ := Aside0.mk (Kd.R_below (aR HO268) hb); have n4_ := aBB BK245 hb; have n5_ := aBB BK259 hb; have n6_ := Aside0.mk (below_step (aHB HB) hb); clear HO_4; clear HO_7; clear HO_260001; clear HO268; clear BK245; clear BK259; clear HB; have HO_4 := n0_; have HO_7 := n1_; have HO_260001 := n2_; have HO268 := n3_; have BK245 := n4_; have BK259 := n5_; have HB := n6_; clear n0_ n1_ n2_ n3_ n4_ n5_ n6_; (try clear hb); (try clear hb2); (try clear hk); (try clear hi)))
         go_meet
         case rel => exact ⟨_, (true), (by first | rfl | (simp; done) | (simp [*]; done)), H', ⟨by have := HJ10.out; first | omega | exact Nat.le_refl _⟩, ⟨by (with_reducible repeat (first | apply Kd.R_alloc | apply Kd.R_drewN | apply Kd.R_drew)); exact HO_4.out⟩, ⟨by (with_reducible repeat (first | apply Kd.R_alloc | apply Kd.R_drewN | apply Kd.R_drew)); exact HO_7.out⟩, ⟨by (with_reducible repeat (first | apply Kd.R_alloc | apply Kd.R_drewN | apply Kd.R_drew)); exact Kd.R_mono HO_260001.out (fun _ hk => trivial)⟩, ⟨(aLB BK245)⟩, ⟨(aLB BK259)⟩, ⟨by exact (aHB HB)⟩⟩
      case rest =>
       clear HC39
       try clear c1
       try clear c2
       try clear p2
       try clear c3
       try clear c3b0
       try clear c4
       try clear c5
       try clear c14
       try clear c15
       try clear c17
       try clear c19
       try clear c22
       try clear c26
       try clear c27
       try clear c34
       try clear c37
       try clear c44
       try clear c47
       try clear c47b0
       try clear c48
       try clear c49
       try clear c50
       try clear hcz13_0
       try clear hcz13_1
       try clear hcz15_0
       try clear hcz15_1
       try clear hcz19_0
       try clear hcz19_1
       try clear hcz23_0
       try clear hcz23_1
       try clear hcz45_0
       try clear hcz45_1
       try clear hcz5_0
       try clear hcz5_1
       try clear hfz13_0
       try clear hfz13_1
       try clear hfz15_0
       try clear hfz15_1
       try clear hfz19_0
       try clear hfz19_1
       try clear hfz23_0
       try clear hfz23_1
       try clear hfz45_0
       try clear hfz45_1
       try clear hfz5_0
       try clear hfz5_1
       try clear p2
       obtain ⟨kq, x61_38, rfl, HA, HJ38, HO_4, HO_7, HO_260001, BK245, BK259, HB⟩ := hcut
       have hl260001_38 := (Kd.R_reads' HO_260001.out).1
       rw [hl260001_38] at HO_260001
       (try simp only [hl260001_38])
       (try simp only [hl260001_38] at BK245)
       (try simp only [hl260001_38] at BK259)
       (try simp only [hl260001_38] at HO_4)
       (try simp only [hl260001_38] at HO_7)
       cases kq with
       | zero => exact absurd HA.out (by simp [laws_FnExactSolutions.j1])
       | succ kj38 =>
        have H := HA.out
        clear HA
        simp only [laws_FnExactSolutions.j1] at H
        by_cases c56 : x61_38 = true
        ·subst c56
         have H1 : (some false) = some r := by rw [if_pos rfl] at H; exact H
         clear H
         have H := H1
         clear H1
         obtain rfl := Option.some.inj H
         go_wp2
         go_ret
         exact ⟨by first | rfl | (simp [errW_none, errW_some] <;> rfl) | (simp [*, errW_none, errW_some] <;> rfl), by exact (aHB HB)⟩
        ·replace c56 := Bool.eq_false_iff.mpr c56
         subst c56
         have H1 : ((laws_markChainS.f kj38 t260 1).bind fun bt273 => ((laws_heldChainS.f kj38 bt273.2 1).bind fun t275 => (if t275 < 0 then (some false) else (if t275 = bt273.1 then ((laws_toPuzzle.f kj38 a0_0 l0_1).bind fun bt276 => ((impl_Solutions.f kj38 bt276.1 bt276.2).bind fun bt280 => ((laws_eqChainS.f kj38 bt280.1 t251).bind fun t284 => (if t284 = true then (laws_FnExactSolutions.j2 kj38 bt273.2 bt273.1 (bt280.2 != t254)) else (laws_FnExactSolutions.j2 kj38 bt273.2 bt273.1 true))))) else (some false))))) = some r := by rw [if_neg (show ¬ (false = true) by decide)] at H; exact H
         clear H
         have H := H1
         clear H1
         replace H := Option.bind_eq_some_iff.mp H
         obtain ⟨⟨t273, t274⟩, A570, H⟩ := H
         replace H : ((laws_heldChainS.f kj38 t274 1).bind fun t275 => (if t275 < 0 then (some false) else (if t275 = t273 then ((laws_toPuzzle.f kj38 a0_0 l0_1).bind fun bt276 => ((impl_Solutions.f kj38 bt276.1 bt276.2).bind fun bt280 => ((laws_eqChainS.f kj38 bt280.1 t251).bind fun t284 => (if t284 = true then (laws_FnExactSolutions.j2 kj38 t274 t273 (bt280.2 != t254)) else (laws_FnExactSolutions.j2 kj38 t274 t273 true))))) else (some false)))) = some r := H
         have A57 := Aside0.mk A570
         clear A570
         replace H := Option.bind_eq_some_iff.mp H
         obtain ⟨t275, A580, H⟩ := H
         replace H : (if t275 < 0 then (some false) else (if t275 = t273 then ((laws_toPuzzle.f kj38 a0_0 l0_1).bind fun bt276 => ((impl_Solutions.f kj38 bt276.1 bt276.2).bind fun bt280 => ((laws_eqChainS.f kj38 bt280.1 t251).bind fun t284 => (if t284 = true then (laws_FnExactSolutions.j2 kj38 t274 t273 (bt280.2 != t254)) else (laws_FnExactSolutions.j2 kj38 t274 t273 true))))) else (some false))) = some r := H
         have A58 := Aside0.mk A580
         clear A580
         by_cases c59 : t275 < 0
         ·rw [if_pos c59] at H
          have c59b0 : decide (t275 < 0) = true := decide_eq_true c59
          (try (have c59b9 := c59b0; simp only [hl260001_38] at c59b9))
          clear c59
          obtain rfl := Option.some.inj H
          obtain ⟨Ao60, co60, eo60⟩ := Kd.R_slice HO_7.out
          subst eo60
          go_wp2_with (first | ((with_reducible refine gate_callee (f := 51) rfl ?_); refine goesL_ (some 64) rfl rfl Try.func51 (by kernel_rfl) rfl #[.slice Ao60 t260.length co60, .int .i64 1] rfl aAT ?_; (with_reducible refine (laws_markChainS.calls kj38 (fun k_ => some k_ = (.slice Ao60 t260.length co60 : Value).ownBlock) (.slice Ao60 t260.length co60) t260 1 t273 t274 w _ ?side1 ?side2 A57.out).mono ?_); (case side1 => exact (aHB HB)); (case side2 => exact Kd.R_tight rfl HO_7.out); rintro e w61 ⟨rfl, hy0, hb, hkp⟩; refine ⟨_, rfl, ?_⟩; have n0_ := Aside0.mk (Kd.R_mono (ok' := fun k_ => some k_ ≠ (.slice Ao60 t260.length co60 : Value).ownBlock) (Kd.R_keptB (HO_4.out) hkp (fun k_ hk_ hs_ => (hk_) hs_)) (fun k_ hk_ => hk_.1)); have n1_ := Aside0.mk (Kd.R_reok rfl hy0 (fun k_ e_ => HO_7.out.1 k_ e_)); have n2_ := Aside0.mk (Kd.R_mono (ok' := fun k_ => True) (Kd.R_keptB ((Kd.R_apart' HO_260001.out (Kd.R_typed HO_7.out) (by decide))) hkp (fun k_ hk_ hs_ => (hk_.2) hs_)) (fun k_ hk_ => trivial)); have n3_ := Aside0.mk (blk_kept (aLB BK245) hkp (fun hs_ => (fun e_ => (Kd.R_ne HO_7.out BK245.out (by decide)) e_) hs_)); have n4_ := Aside0.mk (blk_kept (aLB BK259) hkp (fun hs_ => (fun e_ => (Kd.R_ne HO_7.out BK259.out (by decide)) e_) hs_)); have n5_ := Aside0.mk (hb); clear HO_4; clear HO_7; clear HO_260001; clear BK245; clear BK259; clear HB; have HO_4 := n0_; have HO_7 := n1_; have HO_260001 := n2_; have BK245 := n3_; have BK259 := n4_; have HB := n5_; clear n0_ n1_ n2_ n3_ n4_ n5_; (try clear hb); (try clear hkp); (try clear hy0)) | ((with_reducible refine gate_callee (f := 52) rfl ?_); refine goesL_ (some 67) rfl rfl Try.func52 (by kernel_rfl) rfl #[.slice Ao60 t274.length co60, .int .i64 1] rfl (by (try simp only [List.map_toArray, List.map_cons, List.map_nil]); first | done | (rw [show t274.length = t260.length from (Kd.R_reads' HO_7.out).1.symm] <;> rfl) | rfl | (simp only [List.length_drop, List.length_take]; rfl)) ?_; (with_reducible refine (laws_heldChainS.calls kj38 _ _ t274 1 t275 _ ?side1 ?side2 A58.out).mono ?_); (case side1 => repeat (first | exact (Kd.R_reads' HO_7.out).2.2 | (with_reducible refine Kd.C_alloc ?_ _) | (with_reducible refine Kd.C_drewN ?_ _) | (with_reducible refine Kd.C_drew ?_))); (case side2 => rw [show t274.length = t260.length from (Kd.R_reads' HO_7.out).1.symm]; exact (Kd.R_reads' HO_7.out).2.1); rintro e w' ⟨rfl, ⟨nd, rfl⟩⟩; refine ⟨_, rfl, ?_⟩))
          go_ret
          exact ⟨by first | rfl | (simp [errW_none, errW_some] <;> rfl) | (simp [*, errW_none, errW_some] <;> rfl), by exact (aHB HB)⟩
         ·rw [if_neg c59] at H
          have c59b0 : decide (t275 < 0) = false := decide_eq_false c59
          (try (have c59b9 := c59b0; simp only [hl260001_38] at c59b9))
          clear c59
          by_cases c62 : t275 = t273
          ·rw [if_pos c62] at H
           have c62b0 : (t275 == t273) = true := beq_iff_eq.mpr c62
           have c62b1 : (t275 != t273) = false := bne_eq_false_iff_eq.mpr c62
           (try (have c62b9 := c62b0; simp only [hl260001_38] at c62b9))
           clear c62
           replace H := Option.bind_eq_some_iff.mp H
           obtain ⟨⟨t276, t277⟩, A630, H⟩ := H
           replace H : ((impl_Solutions.f kj38 t276 t277).bind fun bt280 => ((laws_eqChainS.f kj38 bt280.1 t251).bind fun t284 => (if t284 = true then (laws_FnExactSolutions.j2 kj38 t274 t273 (bt280.2 != t254)) else (laws_FnExactSolutions.j2 kj38 t274 t273 true)))) = some r := H
           have A63 := Aside0.mk A630
           clear A630
           replace H := Option.bind_eq_some_iff.mp H
           obtain ⟨⟨t280, t283⟩, A640, H⟩ := H
           replace H : ((laws_eqChainS.f kj38 t280 t251).bind fun t284 => (if t284 = true then (laws_FnExactSolutions.j2 kj38 t274 t273 (t283 != t254)) else (laws_FnExactSolutions.j2 kj38 t274 t273 true))) = some r := H
           have A64 := Aside0.mk A640
           clear A640
           have HC65 := Aside0.mk H
           clear H
           obtain ⟨Ao66, co66, eo66⟩ := Kd.R_slice HO_7.out
           subst eo66
           go_upto_region 25 with (first | ((with_reducible refine gate_callee (f := 51) rfl ?_); refine goesL_ (some 64) rfl rfl Try.func51 (by kernel_rfl) rfl #[.slice Ao66 t260.length co66, .int .i64 1] rfl aAT ?_; (with_reducible refine (laws_markChainS.calls kj38 (fun k_ => some k_ = (.slice Ao66 t260.length co66 : Value).ownBlock) (.slice Ao66 t260.length co66) t260 1 t273 t274 w _ ?side1 ?side2 A57.out).mono ?_); (case side1 => exact (aHB HB)); (case side2 => exact Kd.R_tight rfl HO_7.out); rintro e w67 ⟨rfl, hy0, hb, hkp⟩; refine ⟨_, rfl, ?_⟩; have n0_ := Aside0.mk (Kd.R_mono (ok' := fun k_ => some k_ ≠ (.slice Ao66 t260.length co66 : Value).ownBlock) (Kd.R_keptB (HO_4.out) hkp (fun k_ hk_ hs_ => (hk_) hs_)) (fun k_ hk_ => hk_.1)); have n1_ := Aside0.mk (Kd.R_reok rfl hy0 (fun k_ e_ => HO_7.out.1 k_ e_)); have n2_ := Aside0.mk (Kd.R_mono (ok' := fun k_ => True) (Kd.R_keptB ((Kd.R_apart' HO_260001.out (Kd.R_typed HO_7.out) (by decide))) hkp (fun k_ hk_ hs_ => (hk_.2) hs_)) (fun k_ hk_ => trivial)); have n3_ := Aside0.mk (blk_kept (aLB BK245) hkp (fun hs_ => (fun e_ => (Kd.R_ne HO_7.out BK245.out (by decide)) e_) hs_)); have n4_ := Aside0.mk (blk_kept (aLB BK259) hkp (fun hs_ => (fun e_ => (Kd.R_ne HO_7.out BK259.out (by decide)) e_) hs_)); have n5_ := Aside0.mk (hb); clear HO_4; clear HO_7; clear HO_260001; clear BK245; clear BK259; clear HB; have HO_4 := n0_; have HO_7 := n1_; have HO_260001 := n2_; have BK245 := n3_; have BK259 := n4_; have HB := n5_; clear n0_ n1_ n2_ n3_ n4_ n5_; (try clear hb); (try clear hkp); (try clear hy0)) | ((with_reducible refine gate_callee (f := 52) rfl ?_); refine goesL_ (some 67) rfl rfl Try.func52 (by kernel_rfl) rfl #[.slice Ao66 t274.length co66, .int .i64 1] rfl (by (try simp only [List.map_toArray, List.map_cons, List.map_nil]); first | done | (rw [show t274.length = t260.length from (Kd.R_reads' HO_7.out).1.symm] <;> rfl) | rfl | (simp only [List.length_drop, List.length_take]; rfl)) ?_; (with_reducible refine (laws_heldChainS.calls kj38 _ _ t274 1 t275 _ ?side1 ?side2 A58.out).mono ?_); (case side1 => repeat (first | exact (Kd.R_reads' HO_7.out).2.2 | (with_reducible refine Kd.C_alloc ?_ _) | (with_reducible refine Kd.C_drewN ?_ _) | (with_reducible refine Kd.C_drew ?_))); (case side2 => rw [show t274.length = t260.length from (Kd.R_reads' HO_7.out).1.symm]; exact (Kd.R_reads' HO_7.out).2.1); rintro e w' ⟨rfl, ⟨nd, rfl⟩⟩; refine ⟨_, rfl, ?_⟩; have hnb68 := NB245_259.out; have hnc68 := NB259_245.out; have hcz69_0 : w67.cell? ⟨gb245, 0, none⟩ = some (.int .i64 a0_0) := aBC BK245 0; have hcz69_1 : w67.cell? ⟨gb245, 1, none⟩ = some (.slice A0_1 l0_1.length c0_1) := aBC BK245 1; have hfz69_0 := blk_frozen BK245.out 0; have hfz69_1 := blk_frozen BK245.out 1) | ((with_reducible refine gate_callee (f := 17) rfl ?_); refine goesL_ (some 75) rfl rfl Try.func17 (by kernel_rfl) rfl #[.agg #[.int .i64 a0_0, .slice A0_1 l0_1.length c0_1]] rfl aAT ?_; (with_reducible refine (laws_toPuzzle.calls kj38 a0_0 _ _ l0_1 t276 t277 _ ?side1 ?side2 A63.out).mono ?_); (case side1 => repeat (first | exact (Kd.C_below HR0_1.out (aHB HB)) | (with_reducible refine Kd.C_alloc ?_ _) | (with_reducible refine Kd.C_drewN ?_ _) | (with_reducible refine Kd.C_drew ?_))); (case side2 => exact HC0_1.out); rintro e w70 ⟨v278, rfl, ho0, hb⟩; refine ⟨_, rfl, ?_⟩; have n0_ := Aside0.mk (Kd.R_below (aR HO_4) hb); have n1_ := Aside0.mk (Kd.R_below (aR HO_7) hb); have n2_ := Aside0.mk (Kd.R_elder' (aR HO_260001) (Kd.R_base ho0) hb); have n3_ := Aside0.mk (Kd.R_lower (Kd.R_new' ho0 (Kd.R_lt (aR HO_260001))) (below_size (aHB HB))); have n4_ := aBB BK245 hb; have n5_ := aBB BK259 hb; have n6_ := Aside0.mk (below_step (aHB HB) hb); clear HO_4; clear HO_7; clear HO_260001; clear BK245; clear BK259; clear HB; have HO_4 := n0_; have HO_7 := n1_; have HO_260001 := n2_; have HO279 := n3_; have BK245 := n4_; have BK259 := n5_; have HB := n6_; clear n0_ n1_ n2_ n3_ n4_ n5_ n6_; (try clear hb); (try clear hb2); (try clear hk); (try clear hi); (try clear ho0); obtain ⟨Ao71, co71, eo71⟩ := Kd.R_slice HO279.out; subst eo71) | ((with_reducible refine gate_callee (f := 49) rfl ?_); refine goesL_ (some 76) rfl rfl Try.func49 (by kernel_rfl) rfl #[.agg #[.int .i64 t276, .slice Ao71 t277.length co71]] rfl aAT ?_; (with_reducible refine (impl_Solutions.calls kj38 t276 _ _ t277 t280 t283 _ ?side1 ?side2 A64.out).mono ?_); (case side1 => repeat (first | exact (Kd.R_reads' HO279.out).2.2 | (with_reducible refine Kd.C_alloc ?_ _) | (with_reducible refine Kd.C_drewN ?_ _) | (with_reducible refine Kd.C_drew ?_))); (case side2 => exact (Kd.R_reads' HO279.out).2.1); rintro e w72 ⟨v281, rfl, ho0, hb⟩; refine ⟨_, rfl, ?_⟩; have n0_ := Aside0.mk (Kd.R_elder' (aR HO_4) (Kd.R_base ho0) hb); have n1_ := Aside0.mk (Kd.R_elder' (aR HO_7) (Kd.R_base ho0) hb); have n2_ := Aside0.mk (Kd.R_below (aR HO_260001) hb); have n3_ := Aside0.mk (Kd.R_below (aR HO279) hb); have n4_ := Aside0.mk (Kd.R_lower (Kd.R_new' (Kd.R_new' ho0 (Kd.R_lt (aR HO_4))) (Kd.R_lt (aR HO_7))) (below_size (aHB HB))); have n5_ := aBB BK245 hb; have n6_ := aBB BK259 hb; have n7_ := Aside0.mk (below_step (aHB HB) hb); clear HO_4; clear HO_7; clear HO_260001; clear HO279; clear BK245; clear BK259; clear HB; have HO_4 := n0_; have HO_7 := n1_; have HO_260001 := n2_; have HO279 := n3_; have HO282 := n4_; have BK245 := n5_; have BK259 := n6_; have HB := n7_; clear n0_ n1_ n2_ n3_ n4_ n5_ n6_ n7_; (try clear hb); (try clear hb2); (try clear hk); (try clear hi); (try clear ho0)))
           (try simp only [Act.put, List.setIfInBounds_toArray, List.set_cons_zero, List.set_cons_succ])
           go_cut [87] (fun v87 wc => ∃ (kq : Nat) (x87_64 : Bool), v87 = .bool x87_64 ∧ Aside0 (laws_FnExactSolutions.j2 kq t274 t273 x87_64 = some r) ∧ Aside0 (kq ≤ kj38) ∧ Aside0 (Kd.R k41 41 wc w.heap.size (fun _ => True) (.slice Ao66 t260.length co66) t274) ∧ Aside0 (Kd.R k39 39 wc w.heap.size (fun _ => True) (.slice Ao24 t271.length co24) t271) ∧ Aside0 (wc.heap[gb245]? = some (.cells #[.int .i64 a0_0, (.slice A0_1 l0_1.length c0_1)] 24 (0, 0))) ∧ Aside0 (wc.heap[gb259]? = some (.cells #[.int .i64 t255, (.slice Ao24 t271.length co24)] 29 (0, 0))) ∧ Aside0 (Below w.heap.size w wc))
           case first =>
            have H := HC65.out
            clear HC65
            replace H := Option.bind_eq_some_iff.mp H
            obtain ⟨t284, A730, H⟩ := H
            replace H : (if t284 = true then (laws_FnExactSolutions.j2 kj38 t274 t273 (t283 != t254)) else (laws_FnExactSolutions.j2 kj38 t274 t273 true)) = some r := H
            have A73 := Aside0.mk A730
            clear A730
            by_cases c74 : t284 = true
            ·subst c74
             have H1 : (laws_FnExactSolutions.j2 kj38 t274 t273 (t283 != t254)) = some r := by rw [if_pos rfl] at H; exact H
             clear H
             have H := H1
             clear H1
             have H' := Aside0.mk H
             clear H
             obtain ⟨Ao75, co75, eo75⟩ := Kd.R_slice HO282.out
             subst eo75
             obtain ⟨Ao76, co76, eo76⟩ := Kd.R_slice HO_4.out
             subst eo76
             go_wp2_with (first | ((with_reducible refine gate_callee (f := 50) rfl ?_); refine goesL_ (some 81) rfl rfl Try.func50 (by kernel_rfl) rfl #[.slice Ao75 t280.length co75, .slice Ao76 t251.length co76] rfl aAT ?_; (with_reducible refine (laws_eqChainS.calls kj38 _ _ t280 _ _ t251 true _ ?side1 ?side2 ?side3 ?side4 A73.out).mono ?_); (case side1 => repeat (first | exact (Kd.R_reads' HO282.out).2.2 | (with_reducible refine Kd.C_alloc ?_ _) | (with_reducible refine Kd.C_drewN ?_ _) | (with_reducible refine Kd.C_drew ?_))); (case side2 => exact (Kd.R_reads' HO282.out).2.1); (case side3 => repeat (first | exact (Kd.R_reads' HO_4.out).2.2 | (with_reducible refine Kd.C_alloc ?_ _) | (with_reducible refine Kd.C_drewN ?_ _) | (with_reducible refine Kd.C_drew ?_))); (case side4 => exact (Kd.R_reads' HO_4.out).2.1); rintro e w77 ⟨rfl, hb⟩; refine ⟨_, rfl, ?_⟩; have n0_ := Aside0.mk (Kd.R_below (aR HO_4) hb); have n1_ := Aside0.mk (Kd.R_below (aR HO_7) hb); have n2_ := Aside0.mk (Kd.R_below (aR HO_260001) hb); have n3_ := Aside0.mk (Kd.R_below (aR HO279) hb); have n4_ := Aside0.mk (Kd.R_below (aR HO282) hb); have n5_ := aBB BK245 hb; have n6_ := aBB BK259 hb; have n7_ := Aside0.mk (below_step (aHB HB) hb); clear HO_4; clear HO_7; clear HO_260001; clear HO279; clear HO282; clear BK245; clear BK259; clear HB; have HO_4 := n0_; have HO_7 := n1_; have HO_260001 := n2_; have HO279 := n3_; have HO282 := n4_; have BK245 := n5_; have BK259 := n6_; have HB := n7_; clear n0_ n1_ n2_ n3_ n4_ n5_ n6_ n7_; (try clear hb); (try clear hb2); (try clear hk); (try clear hi)))
             go_meet
             case rel => exact ⟨_, ((t283 != t254)), (by first | rfl | (simp; done) | (simp [*]; done)), H', ⟨by have := HJ10.out; have := HJ38.out; first | omega | exact Nat.le_refl _⟩, ⟨by (try simp only [hl260001_38]); (with_reducible repeat (first | apply Kd.R_alloc | apply Kd.R_drewN | apply Kd.R_drew)); exact Kd.R_mono HO_7.out (fun _ hk => trivial)⟩, ⟨by (try simp only [hl260001_38]); (with_reducible repeat (first | apply Kd.R_alloc | apply Kd.R_drewN | apply Kd.R_drew)); exact Kd.R_mono HO_260001.out (fun _ hk => trivial)⟩, ⟨by (try simp only [hl260001_38]); exact (aLB BK245)⟩, ⟨by (try simp only [hl260001_38]); exact (aLB BK259)⟩, ⟨by exact (aHB HB)⟩⟩
            ·replace c74 := Bool.eq_false_iff.mpr c74
             subst c74
             have H1 : (laws_FnExactSolutions.j2 kj38 t274 t273 true) = some r := by rw [if_neg (show ¬ (false = true) by decide)] at H; exact H
             clear H
             have H := H1
             clear H1
             have H' := Aside0.mk H
             clear H
             obtain ⟨Ao78, co78, eo78⟩ := Kd.R_slice HO282.out
             subst eo78
             obtain ⟨Ao79, co79, eo79⟩ := Kd.R_slice HO_4.out
             subst eo79
             go_wp2_with (first | ((with_reducible refine gate_callee (f := 50) rfl ?_); refine goesL_ (some 81) rfl rfl Try.func50 (by kernel_rfl) rfl #[.slice Ao78 t280.length co78, .slice Ao79 t251.length co79] rfl aAT ?_; (with_reducible refine (laws_eqChainS.calls kj38 _ _ t280 _ _ t251 false _ ?side1 ?side2 ?side3 ?side4 A73.out).mono ?_); (case side1 => repeat (first | exact (Kd.R_reads' HO282.out).2.2 | (with_reducible refine Kd.C_alloc ?_ _) | (with_reducible refine Kd.C_drewN ?_ _) | (with_reducible refine Kd.C_drew ?_))); (case side2 => exact (Kd.R_reads' HO282.out).2.1); (case side3 => repeat (first | exact (Kd.R_reads' HO_4.out).2.2 | (with_reducible refine Kd.C_alloc ?_ _) | (with_reducible refine Kd.C_drewN ?_ _) | (with_reducible refine Kd.C_drew ?_))); (case side4 => exact (Kd.R_reads' HO_4.out).2.1); rintro e w80 ⟨rfl, hb⟩; refine ⟨_, rfl, ?_⟩; have n0_ := Aside0.mk (Kd.R_below (aR HO_4) hb); have n1_ := Aside0.mk (Kd.R_below (aR HO_7) hb); have n2_ := Aside0.mk (Kd.R_below (aR HO_260001) hb); have n3_ := Aside0.mk (Kd.R_below (aR HO279) hb); have n4_ := Aside0.mk (Kd.R_below (aR HO282) hb); have n5_ := aBB BK245 hb; have n6_ := aBB BK259 hb; have n7_ := Aside0.mk (below_step (aHB HB) hb); clear HO_4; clear HO_7; clear HO_260001; clear HO279; clear HO282; clear BK245; clear BK259; clear HB; have HO_4 := n0_; have HO_7 := n1_; have HO_260001 := n2_; have HO279 := n3_; have HO282 := n4_; have BK245 := n5_; have BK259 := n6_; have HB := n7_; clear n0_ n1_ n2_ n3_ n4_ n5_ n6_ n7_; (try clear hb); (try clear hb2); (try clear hk); (try clear hi)))
             go_meet
             case rel => exact ⟨_, (true), (by first | rfl | (simp; done) | (simp [*]; done)), H', ⟨by have := HJ10.out; have := HJ38.out; first | omega | exact Nat.le_refl _⟩, ⟨by (try simp only [hl260001_38]); (with_reducible repeat (first | apply Kd.R_alloc | apply Kd.R_drewN | apply Kd.R_drew)); exact Kd.R_mono HO_7.out (fun _ hk => trivial)⟩, ⟨by (try simp only [hl260001_38]); (with_reducible repeat (first | apply Kd.R_alloc | apply Kd.R_drewN | apply Kd.R_drew)); exact Kd.R_mono HO_260001.out (fun _ hk => trivial)⟩, ⟨by (try simp only [hl260001_38]); exact (aLB BK245)⟩, ⟨by (try simp only [hl260001_38]); exact (aLB BK259)⟩, ⟨by exact (aHB HB)⟩⟩
           case rest =>
            clear HC65
            try clear c1
            try clear c2
            try clear p2
            try clear c3
            try clear c3b0
            try clear c4
            try clear c5
            try clear c6
            try clear c7
            try clear c14
            try clear c15
            try clear c17
            try clear c19
            try clear c22
            try clear c26
            try clear c27
            try clear c34
            try clear c37
            try clear c44
            try clear c47
            try clear c47b0
            try clear c48
            try clear c49
            try clear c50
            try clear c51
            try clear c52
            try clear c56
            try clear c59
            try clear c59b0
            try clear c59b9
            try clear c62
            try clear c62b0
            try clear c62b1
            try clear c62b9
            try clear c68
            try clear c74
            try clear hcz13_0
            try clear hcz13_1
            try clear hcz15_0
            try clear hcz15_1
            try clear hcz19_0
            try clear hcz19_1
            try clear hcz23_0
            try clear hcz23_1
            try clear hcz45_0
            try clear hcz45_1
            try clear hcz5_0
            try clear hcz5_1
            try clear hcz69_0
            try clear hcz69_1
            try clear hfz13_0
            try clear hfz13_1
            try clear hfz15_0
            try clear hfz15_1
            try clear hfz19_0
            try clear hfz19_1
            try clear hfz23_0
            try clear hfz23_1
            try clear hfz45_0
            try clear hfz45_1
            try clear hfz5_0
            try clear hfz5_1
            try clear hfz69_0
            try clear hfz69_1
            try clear p2
            obtain ⟨kq, x87_64, rfl, HA, HJ64, HO_7, HO_260001, BK245, BK259, HB⟩ := hcut
            have hl7_64 := (Kd.R_reads' HO_7.out).1
            rw [hl7_64] at HO_7
            (try simp only [hl7_64])
            (try simp only [hl7_64] at BK245)
            (try simp only [hl7_64] at BK259)
            (try simp only [hl7_64] at HO_260001)
            cases kq with
            | zero => exact absurd HA.out (by simp [laws_FnExactSolutions.j2])
            | succ kj64 =>
             have H := HA.out
             clear HA
             simp only [laws_FnExactSolutions.j2] at H
             by_cases c81 : x87_64 = true
             ·subst c81
              have H1 : (some false) = some r := by rw [if_pos rfl] at H; exact H
              clear H
              have H := H1
              clear H1
              obtain rfl := Option.some.inj H
              go_wp2
              go_ret
              exact ⟨by first | rfl | (simp [errW_none, errW_some] <;> rfl) | (simp [*, errW_none, errW_some] <;> rfl), by exact (aHB HB)⟩
             ·replace c81 := Bool.eq_false_iff.mpr c81
              subst c81
              have H1 : ((laws_heldChainS.f kj64 t274 1).bind fun t285 => (if t285 < 0 then (some false) else (if t285 = t273 then (some true) else (some false)))) = some r := by rw [if_neg (show ¬ (false = true) by decide)] at H; exact H
              clear H
              have H := H1
              clear H1
              replace H := Option.bind_eq_some_iff.mp H
              obtain ⟨t285, A820, H⟩ := H
              replace H : (if t285 < 0 then (some false) else (if t285 = t273 then (some true) else (some false))) = some r := H
              have A82 := Aside0.mk A820
              clear A820
              by_cases c83 : t285 < 0
              ·rw [if_pos c83] at H
               have c83b0 : decide (t285 < 0) = true := decide_eq_true c83
               (try (have c83b9 := c83b0; simp only [hl260001_38, hl7_64] at c83b9))
               clear c83
               obtain rfl := Option.some.inj H
               go_wp2_with (first | ((with_reducible refine gate_callee (f := 52) rfl ?_); refine goesL_ (some 90) rfl rfl Try.func52 (by kernel_rfl) rfl #[.slice Ao66 t274.length co66, .int .i64 1] rfl aAT ?_; (with_reducible refine (laws_heldChainS.calls kj64 _ _ t274 1 t285 _ ?side1 ?side2 A82.out).mono ?_); (case side1 => repeat (first | exact (Kd.R_reads' HO_7.out).2.2 | (with_reducible refine Kd.C_alloc ?_ _) | (with_reducible refine Kd.C_drewN ?_ _) | (with_reducible refine Kd.C_drew ?_))); (case side2 => exact (Kd.R_reads' HO_7.out).2.1); rintro e w' ⟨rfl, ⟨nd, rfl⟩⟩; refine ⟨_, rfl, ?_⟩))
               go_ret
               exact ⟨by first | rfl | (simp [errW_none, errW_some] <;> rfl) | (simp [*, errW_none, errW_some] <;> rfl), by exact (aHB HB)⟩
              ·rw [if_neg c83] at H
               have c83b0 : decide (t285 < 0) = false := decide_eq_false c83
               (try (have c83b9 := c83b0; simp only [hl260001_38, hl7_64] at c83b9))
               clear c83
               by_cases c84 : t285 = t273
               ·rw [if_pos c84] at H
                have c84b0 : (t285 == t273) = true := beq_iff_eq.mpr c84
                have c84b1 : (t285 != t273) = false := bne_eq_false_iff_eq.mpr c84
                (try (have c84b9 := c84b0; simp only [hl260001_38, hl7_64] at c84b9))
                clear c84
                obtain rfl := Option.some.inj H
                go_wp2_with (first | ((with_reducible refine gate_callee (f := 52) rfl ?_); refine goesL_ (some 90) rfl rfl Try.func52 (by kernel_rfl) rfl #[.slice Ao66 t274.length co66, .int .i64 1] rfl aAT ?_; (with_reducible refine (laws_heldChainS.calls kj64 _ _ t274 1 t285 _ ?side1 ?side2 A82.out).mono ?_); (case side1 => repeat (first | exact (Kd.R_reads' HO_7.out).2.2 | (with_reducible refine Kd.C_alloc ?_ _) | (with_reducible refine Kd.C_drewN ?_ _) | (with_reducible refine Kd.C_drew ?_))); (case side2 => exact (Kd.R_reads' HO_7.out).2.1); rintro e w' ⟨rfl, ⟨nd, rfl⟩⟩; refine ⟨_, rfl, ?_⟩))
                go_ret
                exact ⟨by first | rfl | (simp [errW_none, errW_some] <;> rfl) | (simp [*, errW_none, errW_some] <;> rfl), by exact (aHB HB)⟩
               ·rw [if_neg c84] at H
                have c84b0 : (t285 == t273) = false := beq_eq_false_iff_ne.mpr c84
                have c84b1 : (t285 != t273) = true := bne_iff_ne.mpr c84
                (try (have c84b9 := c84b0; simp only [hl260001_38, hl7_64] at c84b9))
                obtain rfl := Option.some.inj H
                go_wp2_with (first | ((with_reducible refine gate_callee (f := 52) rfl ?_); refine goesL_ (some 90) rfl rfl Try.func52 (by kernel_rfl) rfl #[.slice Ao66 t274.length co66, .int .i64 1] rfl aAT ?_; (with_reducible refine (laws_heldChainS.calls kj64 _ _ t274 1 t285 _ ?side1 ?side2 A82.out).mono ?_); (case side1 => repeat (first | exact (Kd.R_reads' HO_7.out).2.2 | (with_reducible refine Kd.C_alloc ?_ _) | (with_reducible refine Kd.C_drewN ?_ _) | (with_reducible refine Kd.C_drew ?_))); (case side2 => exact (Kd.R_reads' HO_7.out).2.1); rintro e w' ⟨rfl, ⟨nd, rfl⟩⟩; refine ⟨_, rfl, ?_⟩))
                go_ret
                exact ⟨by first | rfl | (simp [errW_none, errW_some] <;> rfl) | (simp [*, errW_none, errW_some] <;> rfl), by exact (aHB HB)⟩
          ·rw [if_neg c62] at H
           have c62b0 : (t275 == t273) = false := beq_eq_false_iff_ne.mpr c62
           have c62b1 : (t275 != t273) = true := bne_iff_ne.mpr c62
           (try (have c62b9 := c62b0; simp only [hl260001_38] at c62b9))
           obtain rfl := Option.some.inj H
           obtain ⟨Ao85, co85, eo85⟩ := Kd.R_slice HO_7.out
           subst eo85
           go_wp2_with (first | ((with_reducible refine gate_callee (f := 51) rfl ?_); refine goesL_ (some 64) rfl rfl Try.func51 (by kernel_rfl) rfl #[.slice Ao85 t260.length co85, .int .i64 1] rfl aAT ?_; (with_reducible refine (laws_markChainS.calls kj38 (fun k_ => some k_ = (.slice Ao85 t260.length co85 : Value).ownBlock) (.slice Ao85 t260.length co85) t260 1 t273 t274 w _ ?side1 ?side2 A57.out).mono ?_); (case side1 => exact (aHB HB)); (case side2 => exact Kd.R_tight rfl HO_7.out); rintro e w86 ⟨rfl, hy0, hb, hkp⟩; refine ⟨_, rfl, ?_⟩; have n0_ := Aside0.mk (Kd.R_mono (ok' := fun k_ => some k_ ≠ (.slice Ao85 t260.length co85 : Value).ownBlock) (Kd.R_keptB (HO_4.out) hkp (fun k_ hk_ hs_ => (hk_) hs_)) (fun k_ hk_ => hk_.1)); have n1_ := Aside0.mk (Kd.R_reok rfl hy0 (fun k_ e_ => HO_7.out.1 k_ e_)); have n2_ := Aside0.mk (Kd.R_mono (ok' := fun k_ => True) (Kd.R_keptB ((Kd.R_apart' HO_260001.out (Kd.R_typed HO_7.out) (by decide))) hkp (fun k_ hk_ hs_ => (hk_.2) hs_)) (fun k_ hk_ => trivial)); have n3_ := Aside0.mk (blk_kept (aLB BK245) hkp (fun hs_ => (fun e_ => (Kd.R_ne HO_7.out BK245.out (by decide)) e_) hs_)); have n4_ := Aside0.mk (blk_kept (aLB BK259) hkp (fun hs_ => (fun e_ => (Kd.R_ne HO_7.out BK259.out (by decide)) e_) hs_)); have n5_ := Aside0.mk (hb); clear HO_4; clear HO_7; clear HO_260001; clear BK245; clear BK259; clear HB; have HO_4 := n0_; have HO_7 := n1_; have HO_260001 := n2_; have BK245 := n3_; have BK259 := n4_; have HB := n5_; clear n0_ n1_ n2_ n3_ n4_ n5_; (try clear hb); (try clear hkp); (try clear hy0)) | ((with_reducible refine gate_callee (f := 52) rfl ?_); refine goesL_ (some 67) rfl rfl Try.func52 (by kernel_rfl) rfl #[.slice Ao85 t274.length co85, .int .i64 1] rfl (by (try simp only [List.map_toArray, List.map_cons, List.map_nil]); first | done | (rw [show t274.length = t260.length from (Kd.R_reads' HO_7.out).1.symm] <;> rfl) | rfl | (simp only [List.length_drop, List.length_take]; rfl)) ?_; (with_reducible refine (laws_heldChainS.calls kj38 _ _ t274 1 t275 _ ?side1 ?side2 A58.out).mono ?_); (case side1 => repeat (first | exact (Kd.R_reads' HO_7.out).2.2 | (with_reducible refine Kd.C_alloc ?_ _) | (with_reducible refine Kd.C_drewN ?_ _) | (with_reducible refine Kd.C_drew ?_))); (case side2 => rw [show t274.length = t260.length from (Kd.R_reads' HO_7.out).1.symm]; exact (Kd.R_reads' HO_7.out).2.1); rintro e w' ⟨rfl, ⟨nd, rfl⟩⟩; refine ⟨_, rfl, ?_⟩))
           go_ret
           exact ⟨by first | rfl | (simp [errW_none, errW_some] <;> rfl) | (simp [*, errW_none, errW_some] <;> rfl), by exact (aHB HB)⟩
     ·replace c37 := Bool.eq_false_iff.mpr c37
      subst c37
      have H1 : (some false) = some r := by rw [if_neg (show ¬ (false = true) by decide)] at H; exact H
      clear H
      have H := H1
      clear H1
      obtain rfl := Option.some.inj H
      try go_wp2
      have n0_ := Aside0.mk (Kd.R_drew HO_4.out)
      have n1_ := Aside0.mk (Kd.R_drew HO_7.out)
      have n2_ := Aside0.mk (Kd.R_drew HO_260001.out)
      have n3_ := Aside0.mk (blk_drew BK245.out)
      have n4_ := Aside0.mk (blk_drew BK259.out)
      have n5_ := Aside0.mk (below_drew1 HB.out)
      clear HO_4 HO_7 HO_260001 BK245 BK259 HB
      have HO_4 := n0_
      have HO_7 := n1_
      have HO_260001 := n2_
      have BK245 := n3_
      have BK259 := n4_
      have HB := n5_
      clear n0_ n1_ n2_ n3_ n4_ n5_
      refine start_ (n := 5) (S := fun w' => w'.cell? ⟨gb259, 0, none⟩ = some (.int .i64 t255) ∧ w'.cell? ⟨gb259, 1, none⟩ = some (.slice Ao24 t256.length co24) ∧ w'.cell? ⟨gb245, 0, none⟩ = some (.int .i64 a0_0) ∧ w'.cell? ⟨gb245, 1, none⟩ = some (.slice A0_1 l0_1.length c0_1)) (ds := []) #[false, false, false, false, false] (by kernel_rfl) rfl rfl ⟨aBC BK259 0, aBC BK259 1, aBC BK245 0, aBC BK245 1⟩ (fun hHeld => ?_)
      generalize wc.drew = w87 at HO_4 HO_7 HO_260001 BK245 BK259 HB hHeld ⊢
      refine take_ (i := 0) (N := some 41) (v := ?_) (a' := ?_) #[true, false, false, false, false] rfl rfl (by kernel_rfl) (fun _ _ _ h => h) (Or.inl ⟨by rfl, ?_⟩) hHeld ?_ ?_
      rotate_left
      ·rintro w' ⟨s0, s1, s2, s3⟩
       go_simp
       with_reducible rfl
      rotate_left
      ·simp only [Act.put, List.setIfInBounds_toArray, List.set_cons_zero, List.set_cons_succ, i64_w, i32_w]
       rfl
      refine take_ (i := 1) (N := some 42) (v := ?_) (a' := ?_) #[true, true, false, false, false] rfl rfl (by kernel_rfl) (fun _ _ _ h => h) (Or.inl ⟨by rfl, ?_⟩) hHeld ?_ ?_
      rotate_left
      ·rintro w' ⟨s0, s1, s2, s3⟩
       go_simp
       with_reducible rfl
      rotate_left
      ·simp only [Act.put, List.setIfInBounds_toArray, List.set_cons_zero, List.set_cons_succ, i64_w, i32_w]
       rfl
      refine one_ (i := 2) (N := some 43) #[true, true, true, false, false] rfl rfl (by kernel_rfl) (by decide) (fun K hK => ?_)
      refine goes_ Try.func17 (by kernel_rfl) rfl #[.agg #[.int .i64 a0_0, .slice A0_1 l0_1.length c0_1]] (by rfl) rfl rfl aAT ?_
      with_reducible refine (laws_toPuzzle.calls kj10 a0_0 _ _ l0_1 t265 t266 _ ?side1 ?side2 A35.out).mono ?_
      (case side1 => repeat (first | exact (Kd.C_below HR0_1.out HB.out) | (with_reducible refine Kd.C_alloc ?_ _) | (with_reducible refine Kd.C_drewN ?_ _) | (with_reducible refine Kd.C_drew ?_)))
      (case side2 => exact HC0_1.out)
      rintro e w88 ⟨v267, rfl, ho0, hb⟩
      refine ⟨_, rfl, ?_⟩
      have n0_ := Aside0.mk (Kd.R_below (aR HO_4) hb)
      have n1_ := Aside0.mk (Kd.R_below (aR HO_7) hb)
      have n2_ := Aside0.mk (Kd.R_elder' (aR HO_260001) (Kd.R_base ho0) hb)
      have n3_ := Aside0.mk (Kd.R_lower (Kd.R_new' ho0 (Kd.R_lt (aR HO_260001))) (below_size (aHB HB)))
      have n4_ := aBB BK245 hb
      have n5_ := aBB BK259 hb
      have n6_ := Aside0.mk (below_step (aHB HB) hb)
      clear HO_4 HO_7 HO_260001 BK245 BK259 HB
      have HO_4 := n0_
      have HO_7 := n1_
      have HO_260001 := n2_
      have HO268 := n3_
      have BK245 := n4_
      have BK259 := n5_
      have HB := n6_
      clear n0_ n1_ n2_ n3_ n4_ n5_ n6_
      (try clear hb)
      (try clear hb2)
      (try clear hk)
      (try clear hi)
      (try clear ho0)
      obtain ⟨Ao89, co89, eo89⟩ := Kd.R_slice HO268.out
      (first | subst eo89 | (injection eo89 with f1_ f2_ f3_; have f4_ := f1_.symm; have f5_ := f3_.symm; clear f1_ f2_ f3_; subst f4_; subst f5_))
      refine hK.out _ _ ⟨aBC BK259 0, aBC BK259 1, aBC BK245 0, aBC BK245 1⟩ (fun hHeld => ?_)
      clear hK K
      refine norm_ (a' := ?_) ?_ ?_
      rotate_left
      ·show Act.put _ (some 43) _ = _
       simp only [Act.put, List.setIfInBounds_toArray, List.set_cons_zero, List.set_cons_succ, i64_w, i32_w]
       rfl
      refine one_ (i := 3) (N := some 44) #[true, true, true, true, false] rfl rfl (by kernel_rfl) (by decide) (fun K hK => ?_)
      refine goes_ Try.func19 (by kernel_rfl) rfl #[.agg #[.int .i64 t255, .slice Ao24 t256.length co24], .agg #[.int .i64 t265, .slice Ao89 t266.length co89]] (by rfl) rfl rfl aAT ?_
      with_reducible refine (laws_eqPuzzle.calls kj10 t255 _ _ t256 t265 _ _ t266 false _ ?side1 ?side2 ?side3 ?side4 A36.out).mono ?_
      (case side1 => repeat (first | exact (Kd.R_reads' HO_260001.out).2.2 | (with_reducible refine Kd.C_alloc ?_ _) | (with_reducible refine Kd.C_drewN ?_ _) | (with_reducible refine Kd.C_drew ?_)))
      (case side2 => exact (Kd.R_reads' HO_260001.out).2.1)
      (case side3 => repeat (first | exact (Kd.R_reads' HO268.out).2.2 | (with_reducible refine Kd.C_alloc ?_ _) | (with_reducible refine Kd.C_drewN ?_ _) | (with_reducible refine Kd.C_drew ?_)))
      (case side4 => exact (Kd.R_reads' HO268.out).2.1)
      rintro e w90 ⟨rfl, hb⟩
      refine ⟨_, rfl, ?_⟩
      have n0_ := Aside0.mk (Kd.R_below (aR HO_4) hb)
      have n1_ := Aside0.mk (Kd.R_below (aR HO_7) hb)
      have n2_ := Aside0.mk (Kd.R_below (aR HO_260001) hb)
      have n3_ := Aside0.mk (Kd.R_below (aR HO268) hb)
      have n4_ := aBB BK245 hb
      have n5_ := aBB BK259 hb
      have n6_ := Aside0.mk (below_step (aHB HB) hb)
      clear HO_4 HO_7 HO_260001 HO268 BK245 BK259 HB
      have HO_4 := n0_
      have HO_7 := n1_
      have HO_260001 := n2_
      have HO268 := n3_
      have BK245 := n4_
      have BK259 := n5_
      have HB := n6_
      clear n0_ n1_ n2_ n3_ n4_ n5_ n6_
      (try clear hb)
      (try clear hb2)
      (try clear hk)
      (try clear hi)
      refine hK.out _ _ ⟨aBC BK259 0, aBC BK259 1, aBC BK245 0, aBC BK245 1⟩ (fun hHeld => ?_)
      clear hK K
      refine norm_ (a' := ?_) ?_ ?_
      rotate_left
      ·show Act.put _ (some 44) _ = _
       simp only [Act.put, List.setIfInBounds_toArray, List.set_cons_zero, List.set_cons_succ, i64_w, i32_w]
       rfl
      refine pure_ (i := 4) (N := some 45) (v := ?_) (a' := ?_) #[true, true, true, true, true] rfl rfl (by kernel_rfl) (fun _ _ _ h => h) (Or.inl ⟨by rfl, ?_⟩) ?_ ?_
      rotate_left
      ·intro w'
       go_simp
       with_reducible rfl
      rotate_left
      ·simp only [Act.put, List.setIfInBounds_toArray, List.set_cons_zero, List.set_cons_succ, i64_w, i32_w]
       rfl
      refine done_ (by kernel_rfl) ?_
      try go_wp2
      go_ret
      exact ⟨by first | rfl | (simp [errW_none, errW_some] <;> rfl) | (simp [*, errW_none, errW_some] <;> rfl), by exact (aHB HB)⟩

end Go.Proofs.Ytjcilclfgghfhaa.QFnExactSolutions
