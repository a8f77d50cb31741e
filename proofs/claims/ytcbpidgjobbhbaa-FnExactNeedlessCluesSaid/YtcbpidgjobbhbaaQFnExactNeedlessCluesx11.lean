/- The functions that a law reaches, as plain Lean functions, and their walks. Written by a program of this session, turned out of the kit's print. Conditions: those that each theorem names. -/
import Derived.Test.YtcbpidgjobbhbaaQFnExactNeedlessCluesx0
import Derived.Test.YtcbpidgjobbhbaaQFnExactNeedlessCluesx2
import Derived.Test.YtcbpidgjobbhbaaQFnExactNeedlessCluesx4
import Derived.Test.YtcbpidgjobbhbaaQFnExactNeedlessCluesx9
import Derived.Test.YtcbpidgjobbhbaaQFnExactNeedlessCluesx10
namespace Go.Proofs.Ytcbpidgjobbhbaa.QFnExactNeedlessClues
open Go.RowKit Go.Proofs.YtcbpidgjobbhbaaW.PrintWords Go.Proofs.YtcbpidgjobbhbaaW.PrintLast Go.Proofs.YtcbpidgjobbhbaaW.PrintMore
attribute [local go_sem] max2_int min2_int max_two min_two max_three min_three max_four min_four   -- for this text's walks alone
attribute [local go_sem] Go.Proofs.Ytcbpidgjobbhbaa.Kit.isSome_setCell
set_option linter.unusedVariables false
set_option linter.unusedSimpArgs false
-- steps that stand often, each proved where it is used
theorem z11LB {Q P : Prop} (q : Aside0 Q) (h : Q → P := by intro q; (with_reducible repeat (first | refine blk_drewN ?_ _ | refine blk_drew ?_ | refine blk_alloc ?_ _ | refine blk_far ?_ (Aside0.out (by assumption)) _)); exact q) : P := h q.out
theorem z11HB {B : Nat} {w0 w1 w w' : World} (q : Aside0 (Below B w0 w1)) (h : Below B w0 w1 → Below B w w' := by intro q; repeat (first | (with_reducible first | exact q | apply below_alloc | apply pw_below_drewN | apply below_drew1 | refine below_set ?_ (Aside0.out (by assumption))) | exact q)) : Below B w w' := h q.out
theorem z11LT {w0 w : World} {g : Nat} {o : Obj} (q : Aside0 (w0.heap[g]? = some o)) (h : w0.heap[g]? = some o → w.heap[g]? = some o := by intro q; (with_reducible repeat (first | refine blk_drewN ?_ _ | refine blk_drew ?_ | refine blk_alloc ?_ _)); exact q) : g < w.heap.size := blk_lt (h q.out)
theorem z11R {Q P : Prop} (q : Aside0 Q) (h : Q → P := by intro q; (with_reducible repeat (first | apply Kd.R_alloc | apply Kd.R_drewN | apply Kd.R_drew)); exact q) : P := h q.out
theorem z11BC {w : World} {g : Nat} {cs : Array Value} {t : TypeId} {u : Value} (h : Aside0 (w.heap[g]? = some (.cells cs t (0, 0)))) (i : Nat) (e : cs[i]? = some u := by rfl) : w.cell? ⟨g, i, none⟩ = some u := (blk_cell h.out i).trans e
theorem z11BB {w0 w w1 : World} {g : Nat} {o : Obj} (q : Aside0 (w0.heap[g]? = some o)) (hb : Below w.heap.size w w1) (h : w0.heap[g]? = some o → w.heap[g]? = some o := by intro q; (with_reducible repeat (first | refine blk_drewN ?_ _ | refine blk_drew ?_ | refine blk_alloc ?_ _ | refine blk_far ?_ (Aside0.out (by assumption)) _)); exact q) : Aside0 (w1.heap[g]? = some o) := ⟨blk_below (h q.out) hb⟩
theorem z11AT {P : Prop} (h : P := by (try simp only [List.map_toArray, List.map_cons, List.map_nil]); first | done | rfl | (simp only [List.length_drop, List.length_take]; rfl)) : P := h

/-! ### laws_FnExactNeedlessClues: function 3 -/
mutual
def laws_FnExactNeedlessClues.j0 : Nat → List Int → Bool → List Int → Bool → Bool → Int → List (S62) → Int → List (S55) → Option (Bool)
 | 0, _, _, _, _, _, _, _, _, _ => none
 | k + 1, x4, x5, x7, x8, x40, x290000, x290001, x304000, x304001 => if x40 = true then (some false) else ((laws_toPuzzle.f k x290000 x290001).bind fun bt309 => ((laws_eqPuzzle.f k x304000 x304001 bt309.1 bt309.2).bind fun t313 => (if t313 = true then ((laws_markPuzzle.f k x304000 x304001 1).bind fun bt314 => (if bt314.1 < 0 then (laws_FnExactNeedlessClues.j1 k x4 x5 x7 true x290000 x290001) else ((laws_eqIntS.f k x7 x4).bind fun t316 => (if t316 = true then (laws_FnExactNeedlessClues.j1 k x4 x5 x7 (x8 != x5) x290000 x290001) else (laws_FnExactNeedlessClues.j1 k x4 x5 x7 true x290000 x290001))))) else (some false))))
def laws_FnExactNeedlessClues.j1 : Nat → List Int → Bool → List Int → Bool → Int → List (S62) → Option (Bool)
 | 0, _, _, _, _, _, _ => none
 | k + 1, x4, x5, x7, x61, x290000, x290001 => if x61 = true then (some false) else ((laws_markIntS.f k x7 1).bind fun bt317 => ((laws_heldIntS.f k bt317.2 1).bind fun t319 => (if t319 < 0 then (some false) else (if t319 = bt317.1 then ((laws_toPuzzle.f k x290000 x290001).bind fun bt320 => ((impl_NeedlessClues.f k bt320.1 bt320.2).bind fun bt324 => ((laws_eqIntS.f k bt324.1 x4).bind fun t328 => (if t328 = true then (laws_FnExactNeedlessClues.j2 k bt317.2 bt317.1 (bt324.2 != x5)) else (laws_FnExactNeedlessClues.j2 k bt317.2 bt317.1 true))))) else (some false)))))
def laws_FnExactNeedlessClues.j2 : Nat → List Int → Int → Bool → Option (Bool)
 | 0, _, _, _ => none
 | k + 1, x7, x10, x87 => if x87 = true then (some false) else ((laws_heldIntS.f k x7 1).bind fun t329 => (if t329 < 0 then (some false) else (if t329 = x10 then (some true) else (some false))))
end
def laws_FnExactNeedlessClues.f (k : Nat) (a0_0 : Int) (l0_1 : List (S62)) : Option (Bool) := (laws_szPuzzle.f a0_0 l0_1 1048576).bind fun t290 => (if t290 < 0 then (some true) else ((laws_toPuzzle.f k a0_0 l0_1).bind fun bt291 => ((spec_NeedlessClues.f k bt291.1 bt291.2).bind fun bt295 => ((laws_toPuzzle.f k a0_0 l0_1).bind fun bt299 => ((impl_NeedlessClues.f k bt299.1 bt299.2).bind fun bt304 => ((laws_eqIntS.f k bt304.1 bt295.1).bind fun t308 => (if t308 = true then (laws_FnExactNeedlessClues.j0 k bt295.1 bt295.2 bt304.1 bt304.2 (bt304.2 != bt295.2) a0_0 l0_1 bt299.1 bt299.2) else (laws_FnExactNeedlessClues.j0 k bt295.1 bt295.2 bt304.1 bt304.2 true a0_0 l0_1 bt299.1 bt299.2))))))))
theorem laws_FnExactNeedlessClues.mono_l : ∀ k, (∀ y0 y1 y2 y3 y4 y5 y6 y7 y8, LeO (laws_FnExactNeedlessClues.j0 k y0 y1 y2 y3 y4 y5 y6 y7 y8) (laws_FnExactNeedlessClues.j0 (k + 1) y0 y1 y2 y3 y4 y5 y6 y7 y8)) ∧ (∀ y0 y1 y2 y3 y4 y5, LeO (laws_FnExactNeedlessClues.j1 k y0 y1 y2 y3 y4 y5) (laws_FnExactNeedlessClues.j1 (k + 1) y0 y1 y2 y3 y4 y5)) ∧ (∀ y0 y1 y2, LeO (laws_FnExactNeedlessClues.j2 k y0 y1 y2) (laws_FnExactNeedlessClues.j2 (k + 1) y0 y1 y2))
 | 0 => ⟨fun _ _ _ _ _ _ _ _ _ r h => by simp [laws_FnExactNeedlessClues.j0] at h, fun _ _ _ _ _ _ r h => by simp [laws_FnExactNeedlessClues.j1] at h, fun _ _ _ r h => by simp [laws_FnExactNeedlessClues.j2] at h⟩
 | k + 1 => by
  obtain ⟨ih0, ih1, ih2⟩ := laws_FnExactNeedlessClues.mono_l k
  refine ⟨?_, ?_, ?_⟩
  ·intro y0 y1 y2 y3 y4 y5 y6 y7 y8
   unfold laws_FnExactNeedlessClues.j0
   repeat' first
   | (with_reducible exact ih0 _ _ _ _ _ _ _ _ _)
   | (with_reducible exact ih1 _ _ _ _ _ _)
   | (with_reducible exact ih2 _ _ _)
   | (with_reducible exact impl_NeedlessClues.mono _ _ _)
   | (with_reducible exact laws_eqIntS.mono _ _ _)
   | (with_reducible exact laws_eqPuzzle.mono _ _ _ _ _)
   | (with_reducible exact laws_heldIntS.mono _ _ _)
   | (with_reducible exact laws_markIntS.mono _ _ _)
   | (with_reducible exact laws_markPuzzle.mono _ _ _ _)
   | (with_reducible exact laws_toPuzzle.mono _ _ _)
   | (with_reducible exact spec_NeedlessClues.mono _ _ _)
   | (with_reducible exact LeO.refl _)
   | (with_reducible exact LeO.none _)
   | (with_reducible refine LeO.ite ?_ ?_)
   | (with_reducible refine LeO.bind ?_ (fun _ => ?_))
   | exact ih0 _ _ _ _ _ _ _ _ _
   | exact ih1 _ _ _ _ _ _
   | exact ih2 _ _ _
   | exact impl_NeedlessClues.mono _ _ _
   | exact laws_eqIntS.mono _ _ _
   | exact laws_eqPuzzle.mono _ _ _ _ _
   | exact laws_heldIntS.mono _ _ _
   | exact laws_markIntS.mono _ _ _
   | exact laws_markPuzzle.mono _ _ _ _
   | exact laws_toPuzzle.mono _ _ _
   | exact spec_NeedlessClues.mono _ _ _
   | exact LeO.none _
   | refine LeO.ite ?_ ?_
   | refine LeO.bind ?_ (fun _ => ?_)
  ·intro y0 y1 y2 y3 y4 y5
   unfold laws_FnExactNeedlessClues.j1
   repeat' first
   | (with_reducible exact ih0 _ _ _ _ _ _ _ _ _)
   | (with_reducible exact ih1 _ _ _ _ _ _)
   | (with_reducible exact ih2 _ _ _)
   | (with_reducible exact impl_NeedlessClues.mono _ _ _)
   | (with_reducible exact laws_eqIntS.mono _ _ _)
   | (with_reducible exact laws_eqPuzzle.mono _ _ _ _ _)
   | (with_reducible exact laws_heldIntS.mono _ _ _)
   | (with_reducible exact laws_markIntS.mono _ _ _)
   | (with_reducible exact laws_markPuzzle.mono _ _ _ _)
   | (with_reducible exact laws_toPuzzle.mono _ _ _)
   | (with_reducible exact spec_NeedlessClues.mono _ _ _)
   | (with_reducible exact LeO.refl _)
   | (with_reducible exact LeO.none _)
   | (with_reducible refine LeO.ite ?_ ?_)
   | (with_reducible refine LeO.bind ?_ (fun _ => ?_))
   | exact ih0 _ _ _ _ _ _ _ _ _
   | exact ih1 _ _ _ _ _ _
   | exact ih2 _ _ _
   | exact impl_NeedlessClues.mono _ _ _
   | exact laws_eqIntS.mono _ _ _
   | exact laws_eqPuzzle.mono _ _ _ _ _
   | exact laws_heldIntS.mono _ _ _
   | exact laws_markIntS.mono _ _ _
   | exact laws_markPuzzle.mono _ _ _ _
   | exact laws_toPuzzle.mono _ _ _
   | exact spec_NeedlessClues.mono _ _ _
   | exact LeO.none _
   | refine LeO.ite ?_ ?_
   | refine LeO.bind ?_ (fun _ => ?_)
  ·intro y0 y1 y2
   unfold laws_FnExactNeedlessClues.j2
   repeat' first
   | (with_reducible exact ih0 _ _ _ _ _ _ _ _ _)
   | (with_reducible exact ih1 _ _ _ _ _ _)
   | (with_reducible exact ih2 _ _ _)
   | (with_reducible exact impl_NeedlessClues.mono _ _ _)
   | (with_reducible exact laws_eqIntS.mono _ _ _)
   | (with_reducible exact laws_eqPuzzle.mono _ _ _ _ _)
   | (with_reducible exact laws_heldIntS.mono _ _ _)
   | (with_reducible exact laws_markIntS.mono _ _ _)
   | (with_reducible exact laws_markPuzzle.mono _ _ _ _)
   | (with_reducible exact laws_toPuzzle.mono _ _ _)
   | (with_reducible exact spec_NeedlessClues.mono _ _ _)
   | (with_reducible exact LeO.refl _)
   | (with_reducible exact LeO.none _)
   | (with_reducible refine LeO.ite ?_ ?_)
   | (with_reducible refine LeO.bind ?_ (fun _ => ?_))
   | exact ih0 _ _ _ _ _ _ _ _ _
   | exact ih1 _ _ _ _ _ _
   | exact ih2 _ _ _
   | exact impl_NeedlessClues.mono _ _ _
   | exact laws_eqIntS.mono _ _ _
   | exact laws_eqPuzzle.mono _ _ _ _ _
   | exact laws_heldIntS.mono _ _ _
   | exact laws_markIntS.mono _ _ _
   | exact laws_markPuzzle.mono _ _ _ _
   | exact laws_toPuzzle.mono _ _ _
   | exact spec_NeedlessClues.mono _ _ _
   | exact LeO.none _
   | refine LeO.ite ?_ ?_
   | refine LeO.bind ?_ (fun _ => ?_)
theorem laws_FnExactNeedlessClues.mono : ∀ a0 a1 k, LeO (laws_FnExactNeedlessClues.f k a0 a1) (laws_FnExactNeedlessClues.f (k + 1) a0 a1) := by
 intro a0 a1 k
 obtain ⟨ih0, ih1, ih2⟩ := laws_FnExactNeedlessClues.mono_l k
 unfold laws_FnExactNeedlessClues.f
 repeat' first
   | (with_reducible exact ih0 _ _ _ _ _ _ _ _ _)
   | (with_reducible exact ih1 _ _ _ _ _ _)
   | (with_reducible exact ih2 _ _ _)
   | (with_reducible exact impl_NeedlessClues.mono _ _ _)
   | (with_reducible exact laws_eqIntS.mono _ _ _)
   | (with_reducible exact laws_eqPuzzle.mono _ _ _ _ _)
   | (with_reducible exact laws_heldIntS.mono _ _ _)
   | (with_reducible exact laws_markIntS.mono _ _ _)
   | (with_reducible exact laws_markPuzzle.mono _ _ _ _)
   | (with_reducible exact laws_toPuzzle.mono _ _ _)
   | (with_reducible exact spec_NeedlessClues.mono _ _ _)
   | (with_reducible exact LeO.refl _)
   | (with_reducible exact LeO.none _)
   | (with_reducible refine LeO.ite ?_ ?_)
   | (with_reducible refine LeO.bind ?_ (fun _ => ?_))
   | exact ih0 _ _ _ _ _ _ _ _ _
   | exact ih1 _ _ _ _ _ _
   | exact ih2 _ _ _
   | exact impl_NeedlessClues.mono _ _ _
   | exact laws_eqIntS.mono _ _ _
   | exact laws_eqPuzzle.mono _ _ _ _ _
   | exact laws_heldIntS.mono _ _ _
   | exact laws_markIntS.mono _ _ _
   | exact laws_markPuzzle.mono _ _ _ _
   | exact laws_toPuzzle.mono _ _ _
   | exact spec_NeedlessClues.mono _ _ _
   | exact LeO.none _
   | refine LeO.ite ?_ ?_
   | refine LeO.bind ?_ (fun _ => ?_)
set_option maxHeartbeats 8000000 in
set_option maxRecDepth 100000 in
theorem laws_FnExactNeedlessClues.calls (k : Nat) (a0_0 : Int) (A0_1 : Option Addr) (c0_1 : Nat) (l0_1 : List (S62)) (r : Bool) (w : World) (hr0_1 : Kd.C k62 w A0_1 l0_1.length l0_1) (hc0_1 : l0_1.length ≤ c0_1) (h : laws_FnExactNeedlessClues.f k a0_0 l0_1 = some r) :
  Calls Try.prog 3 #[.agg #[.int .i64 a0_0, .slice A0_1 l0_1.length c0_1]] w fun e w' => e = .returned (.bool r) ∧ Below w.heap.size w w' := by
 have hu24 := Try.underlying24
 have hu31 := Try.underlying31
 have HR0_1 := Aside0.mk hr0_1
 have HC0_1 := Aside0.mk hc0_1
 clear hr0_1 hc0_1
 have HB := Aside0.mk (Below.refl w.heap.size w)
 have H : ((laws_szPuzzle.f a0_0 l0_1 1048576).bind fun t290 => (if t290 < 0 then (some true) else ((laws_toPuzzle.f k a0_0 l0_1).bind fun bt291 => ((spec_NeedlessClues.f k bt291.1 bt291.2).bind fun bt295 => ((laws_toPuzzle.f k a0_0 l0_1).bind fun bt299 => ((impl_NeedlessClues.f k bt299.1 bt299.2).bind fun bt304 => ((laws_eqIntS.f k bt304.1 bt295.1).bind fun t308 => (if t308 = true then (laws_FnExactNeedlessClues.j0 k bt295.1 bt295.2 bt304.1 bt304.2 (bt304.2 != bt295.2) a0_0 l0_1 bt299.1 bt299.2) else (laws_FnExactNeedlessClues.j0 k bt295.1 bt295.2 bt304.1 bt304.2 true a0_0 l0_1 bt299.1 bt299.2))))))))) = some r := h
 clear h
 replace H := Option.bind_eq_some_iff.mp H
 obtain ⟨t290, A20, H⟩ := H
 replace H : (if t290 < 0 then (some true) else ((laws_toPuzzle.f k a0_0 l0_1).bind fun bt291 => ((spec_NeedlessClues.f k bt291.1 bt291.2).bind fun bt295 => ((laws_toPuzzle.f k a0_0 l0_1).bind fun bt299 => ((impl_NeedlessClues.f k bt299.1 bt299.2).bind fun bt304 => ((laws_eqIntS.f k bt304.1 bt295.1).bind fun t308 => (if t308 = true then (laws_FnExactNeedlessClues.j0 k bt295.1 bt295.2 bt304.1 bt304.2 (bt304.2 != bt295.2) a0_0 l0_1 bt299.1 bt299.2) else (laws_FnExactNeedlessClues.j0 k bt295.1 bt295.2 bt304.1 bt304.2 true a0_0 l0_1 bt299.1 bt299.2)))))))) = some r := H
 have A2 := Aside0.mk A20
 clear A20
 by_cases c3 : t290 < 0
 ·rw [if_pos c3] at H
  have c3b0 : decide (t290 < 0) = true := decide_eq_true c3
  clear c3
  obtain rfl := Option.some.inj H
  go_enter Try.func3, Try.ntmps3
  go_wp2_with (first | ((with_reducible refine gate_dst (N := 1) rfl ?_); refine box_event ?hg (N := 1) ?hd (cs := #[.int .i64 a0_0, .slice A0_1 l0_1.length c0_1]) (t := 24) ?hr ?_; (case hd => rfl); (case hg => rfl); (case hr => first | (go_simp; done) | (go_simp; rfl)); intro gb289 hg w4 hbox hb; have n0_ := Aside0.mk (below_step (z11HB HB) hb); have n1_ := Aside0.mk (hbox); have n2_ := Aside0.mk ((by rw [hg]; exact (below_size (z11HB HB)) : w.heap.size ≤ gb289)); have n3_ := Aside0.mk ((by rw [hg]; exact (below_size (z11HB HB)) : w.heap.size ≤ gb289)); clear HB; have HB := n0_; have BK289 := n1_; have GW289 := n2_; have GE289 := n3_; clear n0_ n1_ n2_ n3_; clear hb hbox hg; have hcz5_0 : w4.cell? ⟨gb289, 0, none⟩ = some (.int .i64 a0_0) := z11BC BK289 0; have hcz5_1 : w4.cell? ⟨gb289, 1, none⟩ = some (.slice A0_1 l0_1.length c0_1) := z11BC BK289 1; have hfz5_0 := blk_frozen BK289.out 0; have hfz5_1 := blk_frozen BK289.out 1) | ((with_reducible refine gate_callee (f := 5) rfl ?_); refine goesL_ (some 16) rfl rfl Try.func5 (by kernel_rfl) rfl #[.agg #[.int .i64 a0_0, .slice A0_1 l0_1.length c0_1], .int .i64 1048576] rfl z11AT ?_; (with_reducible refine (laws_szPuzzle.calls a0_0 _ _ l0_1 1048576 t290 _ ?side1 ?side2 A2.out).mono ?_); (case side1 => repeat (first | exact (Kd.C_below HR0_1.out HB.out) | (with_reducible refine Kd.C_alloc ?_ _) | (with_reducible refine Kd.C_drewN ?_ _) | (with_reducible refine Kd.C_drew ?_))); (case side2 => exact HC0_1.out); rintro e w6 ⟨rfl, hb⟩; refine ⟨_, rfl, ?_⟩; have n0_ := z11BB BK289 hb; have n1_ := Aside0.mk (below_step (z11HB HB) hb); clear BK289; clear HB; have BK289 := n0_; have HB := n1_; clear n0_ n1_; (try clear hb); (try clear hb2); (try clear hk); (try clear hi)))
  go_ret
  exact ⟨by first | rfl | (simp [errW_none, errW_some] <;> rfl) | (simp [*, errW_none, errW_some] <;> rfl), by exact (z11HB HB)⟩
 ·rw [if_neg c3] at H
  have c3b0 : decide (t290 < 0) = false := decide_eq_false c3
  clear c3
  replace H := Option.bind_eq_some_iff.mp H
  obtain ⟨⟨t291, t292⟩, A70, H⟩ := H
  replace H : ((spec_NeedlessClues.f k t291 t292).bind fun bt295 => ((laws_toPuzzle.f k a0_0 l0_1).bind fun bt299 => ((impl_NeedlessClues.f k bt299.1 bt299.2).bind fun bt304 => ((laws_eqIntS.f k bt304.1 bt295.1).bind fun t308 => (if t308 = true then (laws_FnExactNeedlessClues.j0 k bt295.1 bt295.2 bt304.1 bt304.2 (bt304.2 != bt295.2) a0_0 l0_1 bt299.1 bt299.2) else (laws_FnExactNeedlessClues.j0 k bt295.1 bt295.2 bt304.1 bt304.2 true a0_0 l0_1 bt299.1 bt299.2)))))) = some r := H
  have A7 := Aside0.mk A70
  clear A70
  replace H := Option.bind_eq_some_iff.mp H
  obtain ⟨⟨t295, t298⟩, A80, H⟩ := H
  replace H : ((laws_toPuzzle.f k a0_0 l0_1).bind fun bt299 => ((impl_NeedlessClues.f k bt299.1 bt299.2).bind fun bt304 => ((laws_eqIntS.f k bt304.1 t295).bind fun t308 => (if t308 = true then (laws_FnExactNeedlessClues.j0 k t295 t298 bt304.1 bt304.2 (bt304.2 != t298) a0_0 l0_1 bt299.1 bt299.2) else (laws_FnExactNeedlessClues.j0 k t295 t298 bt304.1 bt304.2 true a0_0 l0_1 bt299.1 bt299.2))))) = some r := H
  have A8 := Aside0.mk A80
  clear A80
  replace H := Option.bind_eq_some_iff.mp H
  obtain ⟨⟨t299, t300⟩, A90, H⟩ := H
  replace H : ((impl_NeedlessClues.f k t299 t300).bind fun bt304 => ((laws_eqIntS.f k bt304.1 t295).bind fun t308 => (if t308 = true then (laws_FnExactNeedlessClues.j0 k t295 t298 bt304.1 bt304.2 (bt304.2 != t298) a0_0 l0_1 t299 t300) else (laws_FnExactNeedlessClues.j0 k t295 t298 bt304.1 bt304.2 true a0_0 l0_1 t299 t300)))) = some r := H
  have A9 := Aside0.mk A90
  clear A90
  replace H := Option.bind_eq_some_iff.mp H
  obtain ⟨⟨t304, t307⟩, A100, H⟩ := H
  replace H : ((laws_eqIntS.f k t304 t295).bind fun t308 => (if t308 = true then (laws_FnExactNeedlessClues.j0 k t295 t298 t304 t307 (t307 != t298) a0_0 l0_1 t299 t300) else (laws_FnExactNeedlessClues.j0 k t295 t298 t304 t307 true a0_0 l0_1 t299 t300))) = some r := H
  have A10 := Aside0.mk A100
  clear A100
  have HC11 := Aside0.mk H
  clear H
  go_enter Try.func3, Try.ntmps3
  go_upto_region 8 with (first | ((with_reducible refine gate_dst (N := 1) rfl ?_); refine box_event ?hg (N := 1) ?hd (cs := #[.int .i64 a0_0, .slice A0_1 l0_1.length c0_1]) (t := 24) ?hr ?_; (case hd => rfl); (case hg => rfl); (case hr => first | (go_simp; done) | (go_simp; rfl)); intro gb289 hg w12 hbox hb; have n0_ := Aside0.mk (below_step (z11HB HB) hb); have n1_ := Aside0.mk (hbox); have n2_ := Aside0.mk ((by rw [hg]; exact (below_size (z11HB HB)) : w.heap.size ≤ gb289)); have n3_ := Aside0.mk ((by rw [hg]; exact (below_size (z11HB HB)) : w.heap.size ≤ gb289)); clear HB; have HB := n0_; have BK289 := n1_; have GW289 := n2_; have GE289 := n3_; clear n0_ n1_ n2_ n3_; clear hb hbox hg; have hcz13_0 : w12.cell? ⟨gb289, 0, none⟩ = some (.int .i64 a0_0) := z11BC BK289 0; have hcz13_1 : w12.cell? ⟨gb289, 1, none⟩ = some (.slice A0_1 l0_1.length c0_1) := z11BC BK289 1; have hfz13_0 := blk_frozen BK289.out 0; have hfz13_1 := blk_frozen BK289.out 1) | ((with_reducible refine gate_callee (f := 5) rfl ?_); refine goesL_ (some 16) rfl rfl Try.func5 (by kernel_rfl) rfl #[.agg #[.int .i64 a0_0, .slice A0_1 l0_1.length c0_1], .int .i64 1048576] rfl z11AT ?_; (with_reducible refine (laws_szPuzzle.calls a0_0 _ _ l0_1 1048576 t290 _ ?side1 ?side2 A2.out).mono ?_); (case side1 => repeat (first | exact (Kd.C_below HR0_1.out HB.out) | (with_reducible refine Kd.C_alloc ?_ _) | (with_reducible refine Kd.C_drewN ?_ _) | (with_reducible refine Kd.C_drew ?_))); (case side2 => exact HC0_1.out); rintro e w14 ⟨rfl, hb⟩; refine ⟨_, rfl, ?_⟩; have n0_ := z11BB BK289 hb; have n1_ := Aside0.mk (below_step (z11HB HB) hb); clear BK289; clear HB; have BK289 := n0_; have HB := n1_; clear n0_ n1_; (try clear hb); (try clear hb2); (try clear hk); (try clear hi); have hcz15_0 : w14.cell? ⟨gb289, 0, none⟩ = some (.int .i64 a0_0) := z11BC BK289 0; have hcz15_1 : w14.cell? ⟨gb289, 1, none⟩ = some (.slice A0_1 l0_1.length c0_1) := z11BC BK289 1; have hfz15_0 := blk_frozen BK289.out 0; have hfz15_1 := blk_frozen BK289.out 1) | ((with_reducible refine gate_callee (f := 7) rfl ?_); refine goesL_ (some 21) rfl rfl Try.func7 (by kernel_rfl) rfl #[.agg #[.int .i64 a0_0, .slice A0_1 l0_1.length c0_1]] rfl z11AT ?_; (with_reducible refine (laws_toPuzzle.calls k a0_0 _ _ l0_1 t291 t292 _ ?side1 ?side2 A7.out).mono ?_); (case side1 => repeat (first | exact (Kd.C_below HR0_1.out HB.out) | (with_reducible refine Kd.C_alloc ?_ _) | (with_reducible refine Kd.C_drewN ?_ _) | (with_reducible refine Kd.C_drew ?_))); (case side2 => exact HC0_1.out); rintro e w16 ⟨v293, rfl, ho0, hb⟩; refine ⟨_, rfl, ?_⟩; have n0_ := Aside0.mk (Kd.R_lower ho0 (below_size (z11HB HB))); have n1_ := z11BB BK289 hb; have n2_ := Aside0.mk (below_step (z11HB HB) hb); clear BK289; clear HB; have HO294 := n0_; have BK289 := n1_; have HB := n2_; clear n0_ n1_ n2_; (try clear hb); (try clear hb2); (try clear hk); (try clear hi); (try clear ho0); obtain ⟨Ao17, co17, eo17⟩ := Kd.R_slice HO294.out; subst eo17) | ((with_reducible refine gate_callee (f := 6) rfl ?_); refine goesL_ (some 22) rfl rfl Try.func6 (by kernel_rfl) rfl #[.agg #[.int .i64 t291, .slice Ao17 t292.length co17]] rfl z11AT ?_; (with_reducible refine (spec_NeedlessClues.calls k t291 _ _ t292 t295 t298 _ ?side1 ?side2 A8.out).mono ?_); (case side1 => repeat (first | exact (Kd.R_reads' HO294.out).2.2 | (with_reducible refine Kd.C_alloc ?_ _) | (with_reducible refine Kd.C_drewN ?_ _) | (with_reducible refine Kd.C_drew ?_))); (case side2 => exact (Kd.R_reads' HO294.out).2.1); rintro e w18 ⟨v296, rfl, ho0, hb⟩; refine ⟨_, rfl, ?_⟩; have n0_ := Aside0.mk (Kd.R_below (z11R HO294) hb); have n1_ := Aside0.mk (Kd.R_lower ho0 (below_size (z11HB HB))); have n2_ := z11BB BK289 hb; have n3_ := Aside0.mk (below_step (z11HB HB) hb); clear HO294; clear BK289; clear HB; have HO294 := n0_; have HO297 := n1_; have BK289 := n2_; have HB := n3_; clear n0_ n1_ n2_ n3_; (try clear hb); (try clear hb2); (try clear hk); (try clear hi); (try clear ho0); have hcz19_0 : w18.cell? ⟨gb289, 0, none⟩ = some (.int .i64 a0_0) := z11BC BK289 0; have hcz19_1 : w18.cell? ⟨gb289, 1, none⟩ = some (.slice A0_1 l0_1.length c0_1) := z11BC BK289 1; have hfz19_0 := blk_frozen BK289.out 0; have hfz19_1 := blk_frozen BK289.out 1) | ((with_reducible refine gate_callee (f := 7) rfl ?_); refine goesL_ (some 26) rfl rfl Try.func7 (by kernel_rfl) rfl #[.agg #[.int .i64 a0_0, .slice A0_1 l0_1.length c0_1]] rfl z11AT ?_; (with_reducible refine (laws_toPuzzle.calls k a0_0 _ _ l0_1 t299 t300 _ ?side1 ?side2 A9.out).mono ?_); (case side1 => repeat (first | exact (Kd.C_below HR0_1.out HB.out) | (with_reducible refine Kd.C_alloc ?_ _) | (with_reducible refine Kd.C_drewN ?_ _) | (with_reducible refine Kd.C_drew ?_))); (case side2 => exact HC0_1.out); rintro e w20 ⟨v301, rfl, ho0, hb⟩; refine ⟨_, rfl, ?_⟩; have n0_ := Aside0.mk (Kd.R_elder' (z11R HO294) (Kd.R_base ho0) hb); have n1_ := Aside0.mk (Kd.R_below (z11R HO297) hb); have n2_ := Aside0.mk (Kd.R_lower (Kd.R_new' ho0 (Kd.R_lt (z11R HO294))) (below_size (z11HB HB))); have n3_ := z11BB BK289 hb; have n4_ := Aside0.mk (below_step (z11HB HB) hb); clear HO294; clear HO297; clear BK289; clear HB; have HO294 := n0_; have HO297 := n1_; have HO302 := n2_; have BK289 := n3_; have HB := n4_; clear n0_ n1_ n2_ n3_ n4_; (try clear hb); (try clear hb2); (try clear hk); (try clear hi); (try clear ho0)) | ((with_reducible refine gate_dst (N := 6) rfl ?_); refine box_event ?hg (N := 6) ?hd (cs := #[.int .i64 0, .slice none 0 0]) (t := 31) ?hr ?_; (case hd => rfl); (case hg => rfl); (case hr => first | (go_simp; done) | (go_simp; rfl)); intro gb303 hg w21 hbox hb; have n0_ := Aside0.mk (Kd.R_below (z11R HO294) hb); have n1_ := Aside0.mk (Kd.R_below (z11R HO297) hb); have n2_ := Aside0.mk (Kd.R_below (z11R HO302) hb); have n3_ := z11BB BK289 hb; have n4_ := Aside0.mk (below_step (z11HB HB) hb); have n5_ := Aside0.mk (hbox); have n6_ := Aside0.mk ((by rw [hg]; exact (below_size (z11HB HB)) : w.heap.size ≤ gb303)); have n7_ := Aside0.mk ((by rw [hg]; exact (below_size (z11HB HB)) : w.heap.size ≤ gb303)); have n8_ := Aside0.mk ((by rw [hg]; exact Nat.ne_of_lt ((z11LT BK289)) : gb289 ≠ gb303)); have n9_ := Aside0.mk ((by rw [hg]; exact Nat.ne_of_gt ((z11LT BK289)) : gb303 ≠ gb289)); clear HO294; clear HO297; clear HO302; clear BK289; clear HB; have HO294 := n0_; have HO297 := n1_; have HO302 := n2_; have BK289 := n3_; have HB := n4_; have BK303 := n5_; have GW303 := n6_; have GE303 := n7_; have NB289_303 := n8_; have NB303_289 := n9_; clear n0_ n1_ n2_ n3_ n4_ n5_ n6_ n7_ n8_ n9_; clear hb hbox hg; have hnb22 := NB303_289.out; have hnc22 := NB289_303.out; have hcz23_0 : w21.cell? ⟨gb303, 0, none⟩ = some (.int .i64 0) := z11BC BK303 0; have hcz23_1 : w21.cell? ⟨gb303, 1, none⟩ = some (.slice none 0 0) := z11BC BK303 1; have hfz23_0 := blk_frozen BK303.out 0; have hfz23_1 := blk_frozen BK303.out 1; obtain ⟨Ao24, co24, eo24⟩ := Kd.R_slice HO302.out; subst eo24) | ((with_reducible refine gate_callee (f := 8) rfl ?_); refine goesL_ (some 29) rfl rfl Try.func8 (by kernel_rfl) rfl #[.agg #[.int .i64 t299, .slice Ao24 t300.length co24]] rfl z11AT ?_; (with_reducible refine (impl_NeedlessClues.calls k t299 _ _ t300 t304 t307 _ ?side1 ?side2 A10.out).mono ?_); (case side1 => refine (Kd.R_reads' (e := 55) (base := w.heap.size) (ok := fun k_ => (True ∧ some k_ ≠ (.slice Ao17 t292.length co17 : Value).ownBlock)) (n := t300.length) (c := co24) ?_).2.2; exact (by (with_reducible repeat (first | apply Kd.R_alloc | apply Kd.R_drewN | apply Kd.R_drew)); exact (Kd.R_mono (Kd.R_far (p := ⟨gb303, 1, none⟩) (Kd.R_far (p := ⟨gb303, 0, none⟩) (Kd.R_types HO302.out BK303.out (by decide)) (fun _ hk => hk.2) (.int .i64 t299)) (fun _ hk => hk.2) (.slice Ao24 t300.length co24)) (fun _ h_ => h_.1)))); (case side2 => exact (Kd.R_reads' HO302.out).2.1); rintro e w25 ⟨v305, rfl, ho0, hb⟩; refine ⟨_, rfl, ?_⟩; have n0_ := Aside0.mk (Kd.R_below (by (with_reducible repeat (first | apply Kd.R_alloc | apply Kd.R_drewN | apply Kd.R_drew)); exact (Kd.R_mono (Kd.R_far (p := ⟨gb303, 1, none⟩) (Kd.R_far (p := ⟨gb303, 0, none⟩) (Kd.R_types HO294.out BK303.out (by decide)) (fun _ hk => hk.2) (.int .i64 t299)) (fun _ hk => hk.2) (.slice Ao24 t300.length co24)) (fun _ h_ => h_.1))) hb); have n1_ := Aside0.mk (Kd.R_elder' (by (with_reducible repeat (first | apply Kd.R_alloc | apply Kd.R_drewN | apply Kd.R_drew)); exact (Kd.R_mono (Kd.R_far (p := ⟨gb303, 1, none⟩) (Kd.R_far (p := ⟨gb303, 0, none⟩) (Kd.R_types HO297.out BK303.out (by decide)) (fun _ hk => hk.2) (.int .i64 t299)) (fun _ hk => hk.2) (.slice Ao24 t300.length co24)) (fun _ h_ => h_.1))) (Kd.R_base ho0) hb); have n2_ := Aside0.mk (Kd.R_below (by (with_reducible repeat (first | apply Kd.R_alloc | apply Kd.R_drewN | apply Kd.R_drew)); exact (Kd.R_mono (Kd.R_far (p := ⟨gb303, 1, none⟩) (Kd.R_far (p := ⟨gb303, 0, none⟩) (Kd.R_types HO302.out BK303.out (by decide)) (fun _ hk => hk.2) (.int .i64 t299)) (fun _ hk => hk.2) (.slice Ao24 t300.length co24)) (fun _ h_ => h_.1))) hb); have n3_ := Aside0.mk (Kd.R_lower (Kd.R_new' ho0 (Kd.R_lt (by (with_reducible repeat (first | apply Kd.R_alloc | apply Kd.R_drewN | apply Kd.R_drew)); exact (Kd.R_mono (Kd.R_far (p := ⟨gb303, 1, none⟩) (Kd.R_far (p := ⟨gb303, 0, none⟩) (Kd.R_types HO297.out BK303.out (by decide)) (fun _ hk => hk.2) (.int .i64 t299)) (fun _ hk => hk.2) (.slice Ao24 t300.length co24)) (fun _ h_ => h_.1))))) (below_size (z11HB HB))); have n4_ := z11BB BK289 hb; have n5_ := Aside0.mk (blk_below (g := gb303) (o := .cells #[.int .i64 t299, .slice Ao24 t300.length co24] 31 (0, 0)) (by (with_reducible repeat (first | refine blk_drewN ?_ _ | refine blk_drew ?_ | refine blk_alloc ?_ _)); refine blk_put (cs := #[.int .i64 t299, .slice none 0 0]) ?_ 1 _ rfl; (with_reducible repeat (first | refine blk_drewN ?_ _ | refine blk_drew ?_ | refine blk_alloc ?_ _)); refine blk_put (cs := #[.int .i64 0, .slice none 0 0]) ?_ 0 _ rfl; exact (z11LB BK303)) hb); have n6_ := Aside0.mk (below_step (z11HB HB) hb); clear HO294; clear HO297; clear HO302; clear BK289; clear BK303; clear HB; have HO294 := n0_; have HO297 := n1_; have HO302 := n2_; have HO306 := n3_; have BK289 := n4_; have BK303 := n5_; have HB := n6_; clear n0_ n1_ n2_ n3_ n4_ n5_ n6_; (try clear hb); (try clear hb2); (try clear hk); (try clear hi); (try clear ho0)))
  (try simp only [Act.put, List.setIfInBounds_toArray, List.set_cons_zero, List.set_cons_succ])
  go_cut [40] (fun v40 wc => ∃ (kq : Nat) (x40_10 : Bool), v40 = .bool x40_10 ∧ Aside0 (laws_FnExactNeedlessClues.j0 kq t295 t298 t304 t307 x40_10 a0_0 l0_1 t299 t300 = some r) ∧ Aside0 (kq ≤ k) ∧ Aside0 (Kd.R (Kd.int .i64) 3 wc w.heap.size (fun k_ => some k_ ≠ (v305 : Value).ownBlock) v296 t295) ∧ Aside0 (Kd.R (Kd.int .i64) 3 wc w.heap.size (fun k_ => some k_ ≠ (v296 : Value).ownBlock) v305 t304) ∧ Aside0 (Kd.R k55 55 wc w.heap.size (fun _ => True) (.slice Ao24 t300.length co24) t300) ∧ Aside0 (wc.heap[gb289]? = some (.cells #[.int .i64 a0_0, (.slice A0_1 l0_1.length c0_1)] 24 (0, 0))) ∧ Aside0 (wc.heap[gb303]? = some (.cells #[.int .i64 t299, (.slice Ao24 t300.length co24)] 31 (0, 0))) ∧ Aside0 (Below w.heap.size w wc))
  case first =>
   have H := HC11.out
   clear HC11
   replace H := Option.bind_eq_some_iff.mp H
   obtain ⟨t308, A260, H⟩ := H
   replace H : (if t308 = true then (laws_FnExactNeedlessClues.j0 k t295 t298 t304 t307 (t307 != t298) a0_0 l0_1 t299 t300) else (laws_FnExactNeedlessClues.j0 k t295 t298 t304 t307 true a0_0 l0_1 t299 t300)) = some r := H
   have A26 := Aside0.mk A260
   clear A260
   by_cases c27 : t308 = true
   ·subst c27
    have H1 : (laws_FnExactNeedlessClues.j0 k t295 t298 t304 t307 (t307 != t298) a0_0 l0_1 t299 t300) = some r := by rw [if_pos rfl] at H; exact H
    clear H
    have H := H1
    clear H1
    have H' := Aside0.mk H
    clear H
    obtain ⟨Ao28, co28, eo28⟩ := Kd.R_slice HO306.out
    subst eo28
    obtain ⟨Ao29, co29, eo29⟩ := Kd.R_slice HO297.out
    subst eo29
    go_wp2_with (first | ((with_reducible refine gate_callee (f := 9) rfl ?_); refine goesL_ (some 34) rfl rfl Try.func9 (by kernel_rfl) rfl #[.slice Ao28 t304.length co28, .slice Ao29 t295.length co29] rfl z11AT ?_; (with_reducible refine (laws_eqIntS.calls k _ _ t304 _ _ t295 true _ ?side1 ?side2 ?side3 ?side4 A26.out).mono ?_); (case side1 => repeat (first | exact (Kd.R_reads' HO306.out).2.2 | (with_reducible refine Kd.C_alloc ?_ _) | (with_reducible refine Kd.C_drewN ?_ _) | (with_reducible refine Kd.C_drew ?_))); (case side2 => exact (Kd.R_reads' HO306.out).2.1); (case side3 => repeat (first | exact (Kd.R_reads' HO297.out).2.2 | (with_reducible refine Kd.C_alloc ?_ _) | (with_reducible refine Kd.C_drewN ?_ _) | (with_reducible refine Kd.C_drew ?_))); (case side4 => exact (Kd.R_reads' HO297.out).2.1); rintro e w' ⟨rfl, ⟨nd, rfl⟩⟩; refine ⟨_, rfl, ?_⟩))
    go_meet
    case rel => exact ⟨_, ((t307 != t298)), (by first | rfl | (simp; done) | (simp [*]; done)), H', ⟨by first | omega | exact Nat.le_refl _⟩, ⟨by (with_reducible repeat (first | apply Kd.R_alloc | apply Kd.R_drewN | apply Kd.R_drew)); exact Kd.R_mono HO297.out (fun _ hk => hk.2)⟩, ⟨by (with_reducible repeat (first | apply Kd.R_alloc | apply Kd.R_drewN | apply Kd.R_drew)); exact Kd.R_mono HO306.out (fun _ hk => hk.2)⟩, ⟨by (with_reducible repeat (first | apply Kd.R_alloc | apply Kd.R_drewN | apply Kd.R_drew)); exact Kd.R_mono HO302.out (fun _ hk => trivial)⟩, ⟨(z11LB BK289)⟩, ⟨(z11LB BK303)⟩, ⟨by exact (z11HB HB)⟩⟩
   ·replace c27 := Bool.eq_false_iff.mpr c27
    subst c27
    have H1 : (laws_FnExactNeedlessClues.j0 k t295 t298 t304 t307 true a0_0 l0_1 t299 t300) = some r := by rw [if_neg (show ¬ (false = true) by decide)] at H; exact H
    clear H
    have H := H1
    clear H1
    have H' := Aside0.mk H
    clear H
    obtain ⟨Ao30, co30, eo30⟩ := Kd.R_slice HO306.out
    subst eo30
    obtain ⟨Ao31, co31, eo31⟩ := Kd.R_slice HO297.out
    subst eo31
    go_wp2_with (first | ((with_reducible refine gate_callee (f := 9) rfl ?_); refine goesL_ (some 34) rfl rfl Try.func9 (by kernel_rfl) rfl #[.slice Ao30 t304.length co30, .slice Ao31 t295.length co31] rfl z11AT ?_; (with_reducible refine (laws_eqIntS.calls k _ _ t304 _ _ t295 false _ ?side1 ?side2 ?side3 ?side4 A26.out).mono ?_); (case side1 => repeat (first | exact (Kd.R_reads' HO306.out).2.2 | (with_reducible refine Kd.C_alloc ?_ _) | (with_reducible refine Kd.C_drewN ?_ _) | (with_reducible refine Kd.C_drew ?_))); (case side2 => exact (Kd.R_reads' HO306.out).2.1); (case side3 => repeat (first | exact (Kd.R_reads' HO297.out).2.2 | (with_reducible refine Kd.C_alloc ?_ _) | (with_reducible refine Kd.C_drewN ?_ _) | (with_reducible refine Kd.C_drew ?_))); (case side4 => exact (Kd.R_reads' HO297.out).2.1); rintro e w' ⟨rfl, ⟨nd, rfl⟩⟩; refine ⟨_, rfl, ?_⟩))
    go_meet
    case rel => exact ⟨_, (true), (by first | rfl | (simp; done) | (simp [*]; done)), H', ⟨by first | omega | exact Nat.le_refl _⟩, ⟨by (with_reducible repeat (first | apply Kd.R_alloc | apply Kd.R_drewN | apply Kd.R_drew)); exact Kd.R_mono HO297.out (fun _ hk => hk.2)⟩, ⟨by (with_reducible repeat (first | apply Kd.R_alloc | apply Kd.R_drewN | apply Kd.R_drew)); exact Kd.R_mono HO306.out (fun _ hk => hk.2)⟩, ⟨by (with_reducible repeat (first | apply Kd.R_alloc | apply Kd.R_drewN | apply Kd.R_drew)); exact Kd.R_mono HO302.out (fun _ hk => trivial)⟩, ⟨(z11LB BK289)⟩, ⟨(z11LB BK303)⟩, ⟨by exact (z11HB HB)⟩⟩
  case rest =>
   clear HC11
   try clear c2
   try clear p2
   try clear c3
   try clear c3b0
   try clear c5
   try clear c6
   try clear c7
   try clear c8
   try clear c9
   try clear c22
   try clear c27
   try clear hcz13_0
   try clear hcz13_1
   try clear hcz15_0
   try clear hcz15_1
   try clear hcz19_0
   try clear hcz19_1
   try clear hcz23_0
   try clear hcz23_1
   try clear hcz5_0
   try clear hcz5_1
   try clear hfz13_0
   try clear hfz13_1
   try clear hfz15_0
   try clear hfz15_1
   try clear hfz19_0
   try clear hfz19_1
   try clear hfz23_0
   try clear hfz23_1
   try clear hfz5_0
   try clear hfz5_1
   obtain ⟨kq, x40_10, rfl, HA, HJ10, HO_4, HO_7, HO_304001, BK289, BK303, HB⟩ := hcut
   cases kq with
   | zero => exact absurd HA.out (by simp [laws_FnExactNeedlessClues.j0])
   | succ kj10 =>
    have H := HA.out
    clear HA
    simp only [laws_FnExactNeedlessClues.j0] at H
    by_cases c32 : x40_10 = true
    ·subst c32
     have H1 : (some false) = some r := by rw [if_pos rfl] at H; exact H
     clear H
     have H := H1
     clear H1
     obtain rfl := Option.some.inj H
     go_wp2
     go_ret
     exact ⟨by first | rfl | (simp [errW_none, errW_some] <;> rfl) | (simp [*, errW_none, errW_some] <;> rfl), by exact (z11HB HB)⟩
    ·replace c32 := Bool.eq_false_iff.mpr c32
     subst c32
     have H1 : ((laws_toPuzzle.f kj10 a0_0 l0_1).bind fun bt309 => ((laws_eqPuzzle.f kj10 t299 t300 bt309.1 bt309.2).bind fun t313 => (if t313 = true then ((laws_markPuzzle.f kj10 t299 t300 1).bind fun bt314 => (if bt314.1 < 0 then (laws_FnExactNeedlessClues.j1 kj10 t295 t298 t304 true a0_0 l0_1) else ((laws_eqIntS.f kj10 t304 t295).bind fun t316 => (if t316 = true then (laws_FnExactNeedlessClues.j1 kj10 t295 t298 t304 (t307 != t298) a0_0 l0_1) else (laws_FnExactNeedlessClues.j1 kj10 t295 t298 t304 true a0_0 l0_1))))) else (some false)))) = some r := by rw [if_neg (show ¬ (false = true) by decide)] at H; exact H
     clear H
     have H := H1
     clear H1
     replace H := Option.bind_eq_some_iff.mp H
     obtain ⟨⟨t309, t310⟩, A330, H⟩ := H
     replace H : ((laws_eqPuzzle.f kj10 t299 t300 t309 t310).bind fun t313 => (if t313 = true then ((laws_markPuzzle.f kj10 t299 t300 1).bind fun bt314 => (if bt314.1 < 0 then (laws_FnExactNeedlessClues.j1 kj10 t295 t298 t304 true a0_0 l0_1) else ((laws_eqIntS.f kj10 t304 t295).bind fun t316 => (if t316 = true then (laws_FnExactNeedlessClues.j1 kj10 t295 t298 t304 (t307 != t298) a0_0 l0_1) else (laws_FnExactNeedlessClues.j1 kj10 t295 t298 t304 true a0_0 l0_1))))) else (some false))) = some r := H
     have A33 := Aside0.mk A330
     clear A330
     replace H := Option.bind_eq_some_iff.mp H
     obtain ⟨t313, A340, H⟩ := H
     replace H : (if t313 = true then ((laws_markPuzzle.f kj10 t299 t300 1).bind fun bt314 => (if bt314.1 < 0 then (laws_FnExactNeedlessClues.j1 kj10 t295 t298 t304 true a0_0 l0_1) else ((laws_eqIntS.f kj10 t304 t295).bind fun t316 => (if t316 = true then (laws_FnExactNeedlessClues.j1 kj10 t295 t298 t304 (t307 != t298) a0_0 l0_1) else (laws_FnExactNeedlessClues.j1 kj10 t295 t298 t304 true a0_0 l0_1))))) else (some false)) = some r := H
     have A34 := Aside0.mk A340
     clear A340
     by_cases c35 : t313 = true
     ·subst c35
      have H1 : ((laws_markPuzzle.f kj10 t299 t300 1).bind fun bt314 => (if bt314.1 < 0 then (laws_FnExactNeedlessClues.j1 kj10 t295 t298 t304 true a0_0 l0_1) else ((laws_eqIntS.f kj10 t304 t295).bind fun t316 => (if t316 = true then (laws_FnExactNeedlessClues.j1 kj10 t295 t298 t304 (t307 != t298) a0_0 l0_1) else (laws_FnExactNeedlessClues.j1 kj10 t295 t298 t304 true a0_0 l0_1))))) = some r := by rw [if_pos rfl] at H; exact H
      clear H
      have H := H1
      clear H1
      replace H := Option.bind_eq_some_iff.mp H
      obtain ⟨⟨t314, t315⟩, A360, H⟩ := H
      replace H : (if t314 < 0 then (laws_FnExactNeedlessClues.j1 kj10 t295 t298 t304 true a0_0 l0_1) else ((laws_eqIntS.f kj10 t304 t295).bind fun t316 => (if t316 = true then (laws_FnExactNeedlessClues.j1 kj10 t295 t298 t304 (t307 != t298) a0_0 l0_1) else (laws_FnExactNeedlessClues.j1 kj10 t295 t298 t304 true a0_0 l0_1)))) = some r := H
      have A36 := Aside0.mk A360
      clear A360
      have HC37 := Aside0.mk H
      clear H
      try go_wp2
      have n0_ := Aside0.mk (Kd.R_drew HO_4.out)
      have n1_ := Aside0.mk (Kd.R_drew HO_7.out)
      have n2_ := Aside0.mk (Kd.R_drew HO_304001.out)
      have n3_ := Aside0.mk (blk_drew BK289.out)
      have n4_ := Aside0.mk (blk_drew BK303.out)
      have n5_ := Aside0.mk (below_drew1 HB.out)
      clear HO_4 HO_7 HO_304001 BK289 BK303 HB
      have HO_4 := n0_
      have HO_7 := n1_
      have HO_304001 := n2_
      have BK289 := n3_
      have BK303 := n4_
      have HB := n5_
      clear n0_ n1_ n2_ n3_ n4_ n5_
      refine start_ (n := 5) (S := fun w' => w'.cell? ⟨gb303, 0, none⟩ = some (.int .i64 t299) ∧ w'.cell? ⟨gb303, 1, none⟩ = some (.slice Ao24 t300.length co24) ∧ w'.cell? ⟨gb289, 0, none⟩ = some (.int .i64 a0_0) ∧ w'.cell? ⟨gb289, 1, none⟩ = some (.slice A0_1 l0_1.length c0_1)) (ds := []) #[false, false, false, false, false] (by kernel_rfl) rfl rfl ⟨z11BC BK303 0, z11BC BK303 1, z11BC BK289 0, z11BC BK289 1⟩ (fun hHeld => ?_)
      generalize wc.drew = w38 at HO_4 HO_7 HO_304001 BK289 BK303 HB hHeld ⊢
      refine take_ (i := 0) (N := some 41) (v := ?_) (a' := ?_) #[true, false, false, false, false] rfl rfl (by kernel_rfl) (fun _ _ _ h => h) (Or.inl ⟨by rfl, ?_⟩) hHeld ?_ ?_
      rotate_left
      ·rintro w' ⟨s0, s1, s2, s3⟩
       go_simp
       with_reducible rfl
      rotate_left
      ·simp only [Act.put, List.setIfInBounds_toArray, List.set_cons_zero, List.set_cons_succ, i64_w, i32_w]
       rfl
      refine take_ (i := 1) (N := some 42) (v := ?_) (a' := ?_) #[true, true, false, false, false] rfl rfl (by kernel_rfl) (fun _ _ _ h => h) (Or.inl ⟨by rfl, ?_⟩) hHeld ?_ ?_
      rotate_left
      ·rintro w' ⟨s0, s1, s2, s3⟩
       go_simp
       with_reducible rfl
      rotate_left
      ·simp only [Act.put, List.setIfInBounds_toArray, List.set_cons_zero, List.set_cons_succ, i64_w, i32_w]
       rfl
      refine one_ (i := 2) (N := some 43) #[true, true, true, false, false] rfl rfl (by kernel_rfl) (by decide) (fun K hK => ?_)
      refine goes_ Try.func7 (by kernel_rfl) rfl #[.agg #[.int .i64 a0_0, .slice A0_1 l0_1.length c0_1]] (by rfl) rfl rfl z11AT ?_
      with_reducible refine (laws_toPuzzle.calls kj10 a0_0 _ _ l0_1 t309 t310 _ ?side1 ?side2 A33.out).mono ?_
      (case side1 => repeat (first | exact (Kd.C_below HR0_1.out HB.out) | (with_reducible refine Kd.C_alloc ?_ _) | (with_reducible refine Kd.C_drewN ?_ _) | (with_reducible refine Kd.C_drew ?_)))
      (case side2 => exact HC0_1.out)
      rintro e w39 ⟨v311, rfl, ho0, hb⟩
      refine ⟨_, rfl, ?_⟩
      have n0_ := Aside0.mk (Kd.R_below (z11R HO_4) hb)
      have n1_ := Aside0.mk (Kd.R_below (z11R HO_7) hb)
      have n2_ := Aside0.mk (Kd.R_elder' (z11R HO_304001) (Kd.R_base ho0) hb)
      have n3_ := Aside0.mk (Kd.R_lower (Kd.R_new' ho0 (Kd.R_lt (z11R HO_304001))) (below_size (z11HB HB)))
      have n4_ := z11BB BK289 hb
      have n5_ := z11BB BK303 hb
      have n6_ := Aside0.mk (below_step (z11HB HB) hb)
      clear HO_4 HO_7 HO_304001 BK289 BK303 HB
      have HO_4 := n0_
      have HO_7 := n1_
      have HO_304001 := n2_
      have HO312 := n3_
      have BK289 := n4_
      have BK303 := n5_
      have HB := n6_
      clear n0_ n1_ n2_ n3_ n4_ n5_ n6_
      (try clear hb)
      (try clear hb2)
      (try clear hk)
      (try clear hi)
      (try clear ho0)
      obtain ⟨Ao40, co40, eo40⟩ := Kd.R_slice HO312.out
      (first | subst eo40 | (injection eo40 with f1_ f2_ f3_; have f4_ := f1_.symm; have f5_ := f3_.symm; clear f1_ f2_ f3_; subst f4_; subst f5_))
      refine hK.out _ _ ⟨z11BC BK303 0, z11BC BK303 1, z11BC BK289 0, z11BC BK289 1⟩ (fun hHeld => ?_)
      clear hK K
      refine norm_ (a' := ?_) ?_ ?_
      rotate_left
      ·show Act.put _ (some 43) _ = _
       simp only [Act.put, List.setIfInBounds_toArray, List.set_cons_zero, List.set_cons_succ, i64_w, i32_w]
       rfl
      refine one_ (i := 3) (N := some 44) #[true, true, true, true, false] rfl rfl (by kernel_rfl) (by decide) (fun K hK => ?_)
      refine goes_ Try.func10 (by kernel_rfl) rfl #[.agg #[.int .i64 t299, .slice Ao24 t300.length co24], .agg #[.int .i64 t309, .slice Ao40 t310.length co40]] (by rfl) rfl rfl z11AT ?_
      with_reducible refine (laws_eqPuzzle.calls kj10 t299 _ _ t300 t309 _ _ t310 true _ ?side1 ?side2 ?side3 ?side4 A34.out).mono ?_
      (case side1 => repeat (first | exact (Kd.R_reads' HO_304001.out).2.2 | (with_reducible refine Kd.C_alloc ?_ _) | (with_reducible refine Kd.C_drewN ?_ _) | (with_reducible refine Kd.C_drew ?_)))
      (case side2 => exact (Kd.R_reads' HO_304001.out).2.1)
      (case side3 => repeat (first | exact (Kd.R_reads' HO312.out).2.2 | (with_reducible refine Kd.C_alloc ?_ _) | (with_reducible refine Kd.C_drewN ?_ _) | (with_reducible refine Kd.C_drew ?_)))
      (case side4 => exact (Kd.R_reads' HO312.out).2.1)
      rintro e w41 ⟨rfl, hb⟩
      refine ⟨_, rfl, ?_⟩
      have n0_ := Aside0.mk (Kd.R_below (z11R HO_4) hb)
      have n1_ := Aside0.mk (Kd.R_below (z11R HO_7) hb)
      have n2_ := Aside0.mk (Kd.R_below (z11R HO_304001) hb)
      have n3_ := Aside0.mk (Kd.R_below (z11R HO312) hb)
      have n4_ := z11BB BK289 hb
      have n5_ := z11BB BK303 hb
      have n6_ := Aside0.mk (below_step (z11HB HB) hb)
      clear HO_4 HO_7 HO_304001 HO312 BK289 BK303 HB
      have HO_4 := n0_
      have HO_7 := n1_
      have HO_304001 := n2_
      have HO312 := n3_
      have BK289 := n4_
      have BK303 := n5_
      have HB := n6_
      clear n0_ n1_ n2_ n3_ n4_ n5_ n6_
      (try clear hb)
      (try clear hb2)
      (try clear hk)
      (try clear hi)
      refine hK.out _ _ ⟨z11BC BK303 0, z11BC BK303 1, z11BC BK289 0, z11BC BK289 1⟩ (fun hHeld => ?_)
      clear hK K
      refine norm_ (a' := ?_) ?_ ?_
      rotate_left
      ·show Act.put _ (some 44) _ = _
       simp only [Act.put, List.setIfInBounds_toArray, List.set_cons_zero, List.set_cons_succ, i64_w, i32_w]
       rfl
      refine pure_ (i := 4) (N := some 45) (v := ?_) (a' := ?_) #[true, true, true, true, true] rfl rfl (by kernel_rfl) (fun _ _ _ h => h) (Or.inl ⟨by rfl, ?_⟩) ?_ ?_
      rotate_left
      ·intro w'
       go_simp
       with_reducible rfl
      rotate_left
      ·simp only [Act.put, List.setIfInBounds_toArray, List.set_cons_zero, List.set_cons_succ, i64_w, i32_w]
       rfl
      refine done_ (by kernel_rfl) ?_
      have hnb42 := NB303_289.out
      have hnc42 := NB289_303.out
      have hcz43_0 : w41.cell? ⟨gb303, 0, none⟩ = some (.int .i64 t299) := z11BC BK303 0
      have hcz43_1 : w41.cell? ⟨gb303, 1, none⟩ = some (.slice Ao24 t300.length co24) := z11BC BK303 1
      have hfz43_0 := blk_frozen BK303.out 0
      have hfz43_1 := blk_frozen BK303.out 1
      go_upto_region 14 with (first | ((with_reducible refine gate_callee (f := 11) rfl ?_); refine goesL_ (some 48) rfl rfl Try.func11 (by kernel_rfl) rfl #[.agg #[.int .i64 t299, .slice Ao24 t300.length co24], .int .i64 1] rfl z11AT ?_; (with_reducible refine (laws_markPuzzle.calls kj10 t299 (fun k_ => some k_ = (.slice Ao24 t300.length co24 : Value).ownBlock) (.slice Ao24 t300.length co24) t300 1 t314 t315 w _ ?side1 ?side2 A36.out).mono ?_); (case side1 => exact (z11HB HB)); (case side2 => exact Kd.R_tight rfl HO_304001.out); rintro e w44 ⟨rfl, hy0, hb, hkp⟩; refine ⟨_, rfl, ?_⟩; have n0_ := Aside0.mk (Kd.R_mono (ok' := fun k_ => some k_ ≠ (v305 : Value).ownBlock) (Kd.R_keptB ((Kd.R_apart' HO_4.out (Kd.R_typed HO_304001.out) (by decide))) hkp (fun k_ hk_ hs_ => (hk_.2) hs_)) (fun k_ hk_ => hk_.1.1)); have n1_ := Aside0.mk (Kd.R_mono (ok' := fun k_ => some k_ ≠ (v296 : Value).ownBlock) (Kd.R_keptB ((Kd.R_apart' HO_7.out (Kd.R_typed HO_304001.out) (by decide))) hkp (fun k_ hk_ hs_ => (hk_.2) hs_)) (fun k_ hk_ => hk_.1.1)); have n2_ := Aside0.mk (Kd.R_reok rfl hy0 (fun k_ e_ => HO_304001.out.1 k_ e_)); have n3_ := Aside0.mk (blk_kept (z11LB BK289) hkp (fun hs_ => (fun e_ => (Kd.R_ne HO_304001.out BK289.out (by decide)) e_) hs_)); have n4_ := Aside0.mk (blk_kept (z11LB BK303) hkp (fun hs_ => (fun e_ => (Kd.R_ne HO_304001.out BK303.out (by decide)) e_) hs_)); have n5_ := Aside0.mk (Kd.R_mono (ok' := fun k_ => some k_ ≠ (.slice Ao24 t300.length co24 : Value).ownBlock) (Kd.R_keptB (HO312.out) hkp (fun k_ hk_ hs_ => (hk_.2) hs_)) (fun k_ hk_ => hk_.1.2)); have n6_ := Aside0.mk (hb); clear HO_4; clear HO_7; clear HO_304001; clear BK289; clear BK303; clear HO312; clear HB; have HO_4 := n0_; have HO_7 := n1_; have HO_304001 := n2_; have BK289 := n3_; have BK303 := n4_; have HO312 := n5_; have HB := n6_; clear n0_ n1_ n2_ n3_ n4_ n5_ n6_; (try clear hb); (try clear hkp); (try clear hy0)))
      (try simp only [Act.put, List.setIfInBounds_toArray, List.set_cons_zero, List.set_cons_succ])
      go_cut [61] (fun v61 wc => ∃ (kq : Nat) (x61_36 : Bool), v61 = .bool x61_36 ∧ Aside0 (laws_FnExactNeedlessClues.j1 kq t295 t298 t304 x61_36 a0_0 l0_1 = some r) ∧ Aside0 (kq ≤ kj10) ∧ Aside0 (Kd.R (Kd.int .i64) 3 wc w.heap.size (fun k_ => some k_ ≠ (v305 : Value).ownBlock) v296 t295) ∧ Aside0 (Kd.R (Kd.int .i64) 3 wc w.heap.size (fun k_ => some k_ ≠ (v296 : Value).ownBlock) v305 t304) ∧ Aside0 (Kd.R k55 55 wc w.heap.size (fun _ => True) (.slice Ao24 t300.length co24) t315) ∧ Aside0 (wc.heap[gb289]? = some (.cells #[.int .i64 a0_0, (.slice A0_1 l0_1.length c0_1)] 24 (0, 0))) ∧ Aside0 (wc.heap[gb303]? = some (.cells #[.int .i64 t299, (.slice Ao24 t300.length co24)] 31 (0, 0))) ∧ Aside0 (Below w.heap.size w wc))
      case first =>
       have H := HC37.out
       clear HC37
       by_cases c45 : t314 < 0
       ·rw [if_pos c45] at H
        have c45b0 : decide (t314 < 0) = true := decide_eq_true c45
        clear c45
        (first | rw [c45b0] | (simp only [i64_w, i32_w]; rw [c45b0]) | skip)
        have H' := Aside0.mk H
        clear H
        go_wp2
        go_meet
        case rel => exact ⟨_, (true), (by first | rfl | (simp; done) | (simp [*]; done)), H', ⟨by have := HJ10.out; first | omega | exact Nat.le_refl _⟩, ⟨by (with_reducible repeat (first | apply Kd.R_alloc | apply Kd.R_drewN | apply Kd.R_drew)); exact HO_4.out⟩, ⟨by (with_reducible repeat (first | apply Kd.R_alloc | apply Kd.R_drewN | apply Kd.R_drew)); exact HO_7.out⟩, ⟨by (with_reducible repeat (first | apply Kd.R_alloc | apply Kd.R_drewN | apply Kd.R_drew)); exact Kd.R_mono HO_304001.out (fun _ hk => trivial)⟩, ⟨(z11LB BK289)⟩, ⟨(z11LB BK303)⟩, ⟨by exact (z11HB HB)⟩⟩
       ·rw [if_neg c45] at H
        have c45b0 : decide (t314 < 0) = false := decide_eq_false c45
        clear c45
        (first | rw [c45b0] | (simp only [i64_w, i32_w]; rw [c45b0]) | skip)
        replace H := Option.bind_eq_some_iff.mp H
        obtain ⟨t316, A460, H⟩ := H
        replace H : (if t316 = true then (laws_FnExactNeedlessClues.j1 kj10 t295 t298 t304 (t307 != t298) a0_0 l0_1) else (laws_FnExactNeedlessClues.j1 kj10 t295 t298 t304 true a0_0 l0_1)) = some r := H
        have A46 := Aside0.mk A460
        clear A460
        by_cases c47 : t316 = true
        ·subst c47
         have H1 : (laws_FnExactNeedlessClues.j1 kj10 t295 t298 t304 (t307 != t298) a0_0 l0_1) = some r := by rw [if_pos rfl] at H; exact H
         clear H
         have H := H1
         clear H1
         have H' := Aside0.mk H
         clear H
         obtain ⟨Ao48, co48, eo48⟩ := Kd.R_slice HO_7.out
         subst eo48
         obtain ⟨Ao49, co49, eo49⟩ := Kd.R_slice HO_4.out
         subst eo49
         go_wp2_with (first | (go_at_call 9; (with_reducible refine (laws_eqIntS.calls kj10 _ _ t304 _ _ t295 true _ ?side1 ?side2 ?side3 ?side4 A46.out).mono ?_); (case side1 => repeat (first | exact (Kd.R_reads' HO_7.out).2.2 | (with_reducible refine Kd.C_alloc ?_ _) | (with_reducible refine Kd.C_drewN ?_ _) | (with_reducible refine Kd.C_drew ?_))); (case side2 => exact (Kd.R_reads' HO_7.out).2.1); (case side3 => repeat (first | exact (Kd.R_reads' HO_4.out).2.2 | (with_reducible refine Kd.C_alloc ?_ _) | (with_reducible refine Kd.C_drewN ?_ _) | (with_reducible refine Kd.C_drew ?_))); (case side4 => exact (Kd.R_reads' HO_4.out).2.1); rintro e w' ⟨rfl, ⟨nd, rfl⟩⟩))
         go_meet
         case rel => exact ⟨_, ((t307 != t298)), (by first | rfl | (simp; done) | (simp [*]; done)), H', ⟨by have := HJ10.out; first | omega | exact Nat.le_refl _⟩, ⟨by (with_reducible repeat (first | apply Kd.R_alloc | apply Kd.R_drewN | apply Kd.R_drew)); exact HO_4.out⟩, ⟨by (with_reducible repeat (first | apply Kd.R_alloc | apply Kd.R_drewN | apply Kd.R_drew)); exact HO_7.out⟩, ⟨by (with_reducible repeat (first | apply Kd.R_alloc | apply Kd.R_drewN | apply Kd.R_drew)); exact Kd.R_mono HO_304001.out (fun _ hk => trivial)⟩, ⟨(z11LB BK289)⟩, ⟨(z11LB BK303)⟩, ⟨by exact (z11HB HB)⟩⟩
        ·replace c47 := Bool.eq_false_iff.mpr c47
         subst c47
         have H1 : (laws_FnExactNeedlessClues.j1 kj10 t295 t298 t304 true a0_0 l0_1) = some r := by rw [if_neg (show ¬ (false = true) by decide)] at H; exact H
         clear H
         have H := H1
         clear H1
         have H' := Aside0.mk H
         clear H
         obtain ⟨Ao50, co50, eo50⟩ := Kd.R_slice HO_7.out
         subst eo50
         obtain ⟨Ao51, co51, eo51⟩ := Kd.R_slice HO_4.out
         subst eo51
         go_wp2_with (first | (go_at_call 9; (with_reducible refine (laws_eqIntS.calls kj10 _ _ t304 _ _ t295 false _ ?side1 ?side2 ?side3 ?side4 A46.out).mono ?_); (case side1 => repeat (first | exact (Kd.R_reads' HO_7.out).2.2 | (with_reducible refine Kd.C_alloc ?_ _) | (with_reducible refine Kd.C_drewN ?_ _) | (with_reducible refine Kd.C_drew ?_))); (case side2 => exact (Kd.R_reads' HO_7.out).2.1); (case side3 => repeat (first | exact (Kd.R_reads' HO_4.out).2.2 | (with_reducible refine Kd.C_alloc ?_ _) | (with_reducible refine Kd.C_drewN ?_ _) | (with_reducible refine Kd.C_drew ?_))); (case side4 => exact (Kd.R_reads' HO_4.out).2.1); rintro e w' ⟨rfl, ⟨nd, rfl⟩⟩))
         go_meet
         case rel => exact ⟨_, (true), (by first | rfl | (simp; done) | (simp [*]; done)), H', ⟨by have := HJ10.out; first | omega | exact Nat.le_refl _⟩, ⟨by (with_reducible repeat (first | apply Kd.R_alloc | apply Kd.R_drewN | apply Kd.R_drew)); exact HO_4.out⟩, ⟨by (with_reducible repeat (first | apply Kd.R_alloc | apply Kd.R_drewN | apply Kd.R_drew)); exact HO_7.out⟩, ⟨by (with_reducible repeat (first | apply Kd.R_alloc | apply Kd.R_drewN | apply Kd.R_drew)); exact Kd.R_mono HO_304001.out (fun _ hk => trivial)⟩, ⟨(z11LB BK289)⟩, ⟨(z11LB BK303)⟩, ⟨by exact (z11HB HB)⟩⟩
      case rest =>
       clear HC37
       try clear c1
       try clear c2
       try clear p2
       try clear c3
       try clear c3b0
       try clear c4
       try clear c5
       try clear c6
       try clear c7
       try clear c8
       try clear c9
       try clear c10
       try clear c11
       try clear c22
       try clear c27
       try clear c32
       try clear c35
       try clear c42
       try clear c45
       try clear c45b0
       try clear c47
       try clear hcz13_0
       try clear hcz13_1
       try clear hcz15_0
       try clear hcz15_1
       try clear hcz19_0
       try clear hcz19_1
       try clear hcz23_0
       try clear hcz23_1
       try clear hcz43_0
       try clear hcz43_1
       try clear hcz5_0
       try clear hcz5_1
       try clear hfz13_0
       try clear hfz13_1
       try clear hfz15_0
       try clear hfz15_1
       try clear hfz19_0
       try clear hfz19_1
       try clear hfz23_0
       try clear hfz23_1
       try clear hfz43_0
       try clear hfz43_1
       try clear hfz5_0
       try clear hfz5_1
       try clear p2
       obtain ⟨kq, x61_36, rfl, HA, HJ36, HO_4, HO_7, HO_304001, BK289, BK303, HB⟩ := hcut
       have hl304001_36 := (Kd.R_reads' HO_304001.out).1
       rw [hl304001_36] at HO_304001
       (try simp only [hl304001_36])
       (try simp only [hl304001_36] at BK289)
       (try simp only [hl304001_36] at BK303)
       (try simp only [hl304001_36] at HO_4)
       (try simp only [hl304001_36] at HO_7)
       cases kq with
       | zero => exact absurd HA.out (by simp [laws_FnExactNeedlessClues.j1])
       | succ kj36 =>
        have H := HA.out
        clear HA
        simp only [laws_FnExactNeedlessClues.j1] at H
        by_cases c52 : x61_36 = true
        ·subst c52
         have H1 : (some false) = some r := by rw [if_pos rfl] at H; exact H
         clear H
         have H := H1
         clear H1
         obtain rfl := Option.some.inj H
         go_wp2
         go_ret
         exact ⟨by first | rfl | (simp [errW_none, errW_some] <;> rfl) | (simp [*, errW_none, errW_some] <;> rfl), by exact (z11HB HB)⟩
        ·replace c52 := Bool.eq_false_iff.mpr c52
         subst c52
         have H1 : ((laws_markIntS.f kj36 t304 1).bind fun bt317 => ((laws_heldIntS.f kj36 bt317.2 1).bind fun t319 => (if t319 < 0 then (some false) else (if t319 = bt317.1 then ((laws_toPuzzle.f kj36 a0_0 l0_1).bind fun bt320 => ((impl_NeedlessClues.f kj36 bt320.1 bt320.2).bind fun bt324 => ((laws_eqIntS.f kj36 bt324.1 t295).bind fun t328 => (if t328 = true then (laws_FnExactNeedlessClues.j2 kj36 bt317.2 bt317.1 (bt324.2 != t298)) else (laws_FnExactNeedlessClues.j2 kj36 bt317.2 bt317.1 true))))) else (some false))))) = some r := by rw [if_neg (show ¬ (false = true) by decide)] at H; exact H
         clear H
         have H := H1
         clear H1
         replace H := Option.bind_eq_some_iff.mp H
         obtain ⟨⟨t317, t318⟩, A530, H⟩ := H
         replace H : ((laws_heldIntS.f kj36 t318 1).bind fun t319 => (if t319 < 0 then (some false) else (if t319 = t317 then ((laws_toPuzzle.f kj36 a0_0 l0_1).bind fun bt320 => ((impl_NeedlessClues.f kj36 bt320.1 bt320.2).bind fun bt324 => ((laws_eqIntS.f kj36 bt324.1 t295).bind fun t328 => (if t328 = true then (laws_FnExactNeedlessClues.j2 kj36 t318 t317 (bt324.2 != t298)) else (laws_FnExactNeedlessClues.j2 kj36 t318 t317 true))))) else (some false)))) = some r := H
         have A53 := Aside0.mk A530
         clear A530
         replace H := Option.bind_eq_some_iff.mp H
         obtain ⟨t319, A540, H⟩ := H
         replace H : (if t319 < 0 then (some false) else (if t319 = t317 then ((laws_toPuzzle.f kj36 a0_0 l0_1).bind fun bt320 => ((impl_NeedlessClues.f kj36 bt320.1 bt320.2).bind fun bt324 => ((laws_eqIntS.f kj36 bt324.1 t295).bind fun t328 => (if t328 = true then (laws_FnExactNeedlessClues.j2 kj36 t318 t317 (bt324.2 != t298)) else (laws_FnExactNeedlessClues.j2 kj36 t318 t317 true))))) else (some false))) = some r := H
         have A54 := Aside0.mk A540
         clear A540
         by_cases c55 : t319 < 0
         ·rw [if_pos c55] at H
          have c55b0 : decide (t319 < 0) = true := decide_eq_true c55
          (try (have c55b9 := c55b0; simp only [hl304001_36] at c55b9))
          clear c55
          obtain rfl := Option.some.inj H
          obtain ⟨Ao56, co56, eo56⟩ := Kd.R_slice HO_7.out
          subst eo56
          go_wp2_with (first | ((with_reducible refine gate_callee (f := 12) rfl ?_); refine goesL_ (some 64) rfl rfl Try.func12 (by kernel_rfl) rfl #[.slice Ao56 t304.length co56, .int .i64 1] rfl z11AT ?_; (with_reducible refine (laws_markIntS.calls kj36 (fun k_ => some k_ = (.slice Ao56 t304.length co56 : Value).ownBlock) (.slice Ao56 t304.length co56) t304 1 t317 t318 w _ ?side1 ?side2 A53.out).mono ?_); (case side1 => exact (z11HB HB)); (case side2 => exact Kd.R_tight rfl HO_7.out); rintro e w57 ⟨rfl, hy0, hb, hkp⟩; refine ⟨_, rfl, ?_⟩; have n0_ := Aside0.mk (Kd.R_mono (ok' := fun k_ => some k_ ≠ (.slice Ao56 t304.length co56 : Value).ownBlock) (Kd.R_keptB (HO_4.out) hkp (fun k_ hk_ hs_ => (hk_) hs_)) (fun k_ hk_ => hk_.1)); have n1_ := Aside0.mk (Kd.R_reok rfl hy0 (fun k_ e_ => HO_7.out.1 k_ e_)); have n2_ := Aside0.mk (Kd.R_mono (ok' := fun k_ => True) (Kd.R_keptB ((Kd.R_apart' HO_304001.out (Kd.R_typed HO_7.out) (by decide))) hkp (fun k_ hk_ hs_ => (hk_.2) hs_)) (fun k_ hk_ => trivial)); have n3_ := Aside0.mk (blk_kept (z11LB BK289) hkp (fun hs_ => (fun e_ => (Kd.R_ne HO_7.out BK289.out (by decide)) e_) hs_)); have n4_ := Aside0.mk (blk_kept (z11LB BK303) hkp (fun hs_ => (fun e_ => (Kd.R_ne HO_7.out BK303.out (by decide)) e_) hs_)); have n5_ := Aside0.mk (hb); clear HO_4; clear HO_7; clear HO_304001; clear BK289; clear BK303; clear HB; have HO_4 := n0_; have HO_7 := n1_; have HO_304001 := n2_; have BK289 := n3_; have BK303 := n4_; have HB := n5_; clear n0_ n1_ n2_ n3_ n4_ n5_; (try clear hb); (try clear hkp); (try clear hy0)) | ((with_reducible refine gate_callee (f := 13) rfl ?_); refine goesL_ (some 67) rfl rfl Try.func13 (by kernel_rfl) rfl #[.slice Ao56 t318.length co56, .int .i64 1] rfl (by (try simp only [List.map_toArray, List.map_cons, List.map_nil]); first | done | (rw [show t318.length = t304.length from (Kd.R_reads' HO_7.out).1.symm] <;> rfl) | rfl | (simp only [List.length_drop, List.length_take]; rfl)) ?_; (with_reducible refine (laws_heldIntS.calls kj36 _ _ t318 1 t319 _ ?side1 ?side2 A54.out).mono ?_); (case side1 => repeat (first | exact (Kd.R_reads' HO_7.out).2.2 | (with_reducible refine Kd.C_alloc ?_ _) | (with_reducible refine Kd.C_drewN ?_ _) | (with_reducible refine Kd.C_drew ?_))); (case side2 => rw [show t318.length = t304.length from (Kd.R_reads' HO_7.out).1.symm]; exact (Kd.R_reads' HO_7.out).2.1); rintro e w' ⟨rfl, ⟨nd, rfl⟩⟩; refine ⟨_, rfl, ?_⟩))
          go_ret
          exact ⟨by first | rfl | (simp [errW_none, errW_some] <;> rfl) | (simp [*, errW_none, errW_some] <;> rfl), by exact (z11HB HB)⟩
         ·rw [if_neg c55] at H
          have c55b0 : decide (t319 < 0) = false := decide_eq_false c55
          (try (have c55b9 := c55b0; simp only [hl304001_36] at c55b9))
          clear c55
          by_cases c58 : t319 = t317
          ·rw [if_pos c58] at H
           have c58b0 : (t319 == t317) = true := beq_iff_eq.mpr c58
           have c58b1 : (t319 != t317) = false := bne_eq_false_iff_eq.mpr c58
           (try (have c58b9 := c58b0; simp only [hl304001_36] at c58b9))
           clear c58
           replace H := Option.bind_eq_some_iff.mp H
           obtain ⟨⟨t320, t321⟩, A590, H⟩ := H
           replace H : ((impl_NeedlessClues.f kj36 t320 t321).bind fun bt324 => ((laws_eqIntS.f kj36 bt324.1 t295).bind fun t328 => (if t328 = true then (laws_FnExactNeedlessClues.j2 kj36 t318 t317 (bt324.2 != t298)) else (laws_FnExactNeedlessClues.j2 kj36 t318 t317 true)))) = some r := H
           have A59 := Aside0.mk A590
           clear A590
           replace H := Option.bind_eq_some_iff.mp H
           obtain ⟨⟨t324, t327⟩, A600, H⟩ := H
           replace H : ((laws_eqIntS.f kj36 t324 t295).bind fun t328 => (if t328 = true then (laws_FnExactNeedlessClues.j2 kj36 t318 t317 (t327 != t298)) else (laws_FnExactNeedlessClues.j2 kj36 t318 t317 true))) = some r := H
           have A60 := Aside0.mk A600
           clear A600
           have HC61 := Aside0.mk H
           clear H
           obtain ⟨Ao62, co62, eo62⟩ := Kd.R_slice HO_7.out
           subst eo62
           go_upto_region 25 with (first | ((with_reducible refine gate_callee (f := 12) rfl ?_); refine goesL_ (some 64) rfl rfl Try.func12 (by kernel_rfl) rfl #[.slice Ao62 t304.length co62, .int .i64 1] rfl z11AT ?_; (with_reducible refine (laws_markIntS.calls kj36 (fun k_ => some k_ = (.slice Ao62 t304.length co62 : Value).ownBlock) (.slice Ao62 t304.length co62) t304 1 t317 t318 w _ ?side1 ?side2 A53.out).mono ?_); (case side1 => exact (z11HB HB)); (case side2 => exact Kd.R_tight rfl HO_7.out); rintro e w63 ⟨rfl, hy0, hb, hkp⟩; refine ⟨_, rfl, ?_⟩; have n0_ := Aside0.mk (Kd.R_mono (ok' := fun k_ => some k_ ≠ (.slice Ao62 t304.length co62 : Value).ownBlock) (Kd.R_keptB (HO_4.out) hkp (fun k_ hk_ hs_ => (hk_) hs_)) (fun k_ hk_ => hk_.1)); have n1_ := Aside0.mk (Kd.R_reok rfl hy0 (fun k_ e_ => HO_7.out.1 k_ e_)); have n2_ := Aside0.mk (Kd.R_mono (ok' := fun k_ => True) (Kd.R_keptB ((Kd.R_apart' HO_304001.out (Kd.R_typed HO_7.out) (by decide))) hkp (fun k_ hk_ hs_ => (hk_.2) hs_)) (fun k_ hk_ => trivial)); have n3_ := Aside0.mk (blk_kept (z11LB BK289) hkp (fun hs_ => (fun e_ => (Kd.R_ne HO_7.out BK289.out (by decide)) e_) hs_)); have n4_ := Aside0.mk (blk_kept (z11LB BK303) hkp (fun hs_ => (fun e_ => (Kd.R_ne HO_7.out BK303.out (by decide)) e_) hs_)); have n5_ := Aside0.mk (hb); clear HO_4; clear HO_7; clear HO_304001; clear BK289; clear BK303; clear HB; have HO_4 := n0_; have HO_7 := n1_; have HO_304001 := n2_; have BK289 := n3_; have BK303 := n4_; have HB := n5_; clear n0_ n1_ n2_ n3_ n4_ n5_; (try clear hb); (try clear hkp); (try clear hy0)) | ((with_reducible refine gate_callee (f := 13) rfl ?_); refine goesL_ (some 67) rfl rfl Try.func13 (by kernel_rfl) rfl #[.slice Ao62 t318.length co62, .int .i64 1] rfl (by (try simp only [List.map_toArray, List.map_cons, List.map_nil]); first | done | (rw [show t318.length = t304.length from (Kd.R_reads' HO_7.out).1.symm] <;> rfl) | rfl | (simp only [List.length_drop, List.length_take]; rfl)) ?_; (with_reducible refine (laws_heldIntS.calls kj36 _ _ t318 1 t319 _ ?side1 ?side2 A54.out).mono ?_); (case side1 => repeat (first | exact (Kd.R_reads' HO_7.out).2.2 | (with_reducible refine Kd.C_alloc ?_ _) | (with_reducible refine Kd.C_drewN ?_ _) | (with_reducible refine Kd.C_drew ?_))); (case side2 => rw [show t318.length = t304.length from (Kd.R_reads' HO_7.out).1.symm]; exact (Kd.R_reads' HO_7.out).2.1); rintro e w' ⟨rfl, ⟨nd, rfl⟩⟩; refine ⟨_, rfl, ?_⟩; have hnb64 := NB289_303.out; have hnc64 := NB303_289.out; have hcz65_0 : w63.cell? ⟨gb289, 0, none⟩ = some (.int .i64 a0_0) := z11BC BK289 0; have hcz65_1 : w63.cell? ⟨gb289, 1, none⟩ = some (.slice A0_1 l0_1.length c0_1) := z11BC BK289 1; have hfz65_0 := blk_frozen BK289.out 0; have hfz65_1 := blk_frozen BK289.out 1) | ((with_reducible refine gate_callee (f := 7) rfl ?_); refine goesL_ (some 75) rfl rfl Try.func7 (by kernel_rfl) rfl #[.agg #[.int .i64 a0_0, .slice A0_1 l0_1.length c0_1]] rfl z11AT ?_; (with_reducible refine (laws_toPuzzle.calls kj36 a0_0 _ _ l0_1 t320 t321 _ ?side1 ?side2 A59.out).mono ?_); (case side1 => repeat (first | exact (Kd.C_below HR0_1.out (z11HB HB)) | (with_reducible refine Kd.C_alloc ?_ _) | (with_reducible refine Kd.C_drewN ?_ _) | (with_reducible refine Kd.C_drew ?_))); (case side2 => exact HC0_1.out); rintro e w66 ⟨v322, rfl, ho0, hb⟩; refine ⟨_, rfl, ?_⟩; have n0_ := Aside0.mk (Kd.R_below (z11R HO_4) hb); have n1_ := Aside0.mk (Kd.R_below (z11R HO_7) hb); have n2_ := Aside0.mk (Kd.R_elder' (z11R HO_304001) (Kd.R_base ho0) hb); have n3_ := Aside0.mk (Kd.R_lower (Kd.R_new' ho0 (Kd.R_lt (z11R HO_304001))) (below_size (z11HB HB))); have n4_ := z11BB BK289 hb; have n5_ := z11BB BK303 hb; have n6_ := Aside0.mk (below_step (z11HB HB) hb); clear HO_4; clear HO_7; clear HO_304001; clear BK289; clear BK303; clear HB; have HO_4 := n0_; have HO_7 := n1_; have HO_304001 := n2_; have HO323 := n3_; have BK289 := n4_; have BK303 := n5_; have HB := n6_; clear n0_ n1_ n2_ n3_ n4_ n5_ n6_; (try clear hb); (try clear hb2); (try clear hk); (try clear hi); (try clear ho0); obtain ⟨Ao67, co67, eo67⟩ := Kd.R_slice HO323.out; subst eo67) | ((with_reducible refine gate_callee (f := 8) rfl ?_); refine goesL_ (some 76) rfl rfl Try.func8 (by kernel_rfl) rfl #[.agg #[.int .i64 t320, .slice Ao67 t321.length co67]] rfl z11AT ?_; (with_reducible refine (impl_NeedlessClues.calls kj36 t320 _ _ t321 t324 t327 _ ?side1 ?side2 A60.out).mono ?_); (case side1 => repeat (first | exact (Kd.R_reads' HO323.out).2.2 | (with_reducible refine Kd.C_alloc ?_ _) | (with_reducible refine Kd.C_drewN ?_ _) | (with_reducible refine Kd.C_drew ?_))); (case side2 => exact (Kd.R_reads' HO323.out).2.1); rintro e w68 ⟨v325, rfl, ho0, hb⟩; refine ⟨_, rfl, ?_⟩; have n0_ := Aside0.mk (Kd.R_elder' (z11R HO_4) (Kd.R_base ho0) hb); have n1_ := Aside0.mk (Kd.R_elder' (z11R HO_7) (Kd.R_base ho0) hb); have n2_ := Aside0.mk (Kd.R_below (z11R HO_304001) hb); have n3_ := Aside0.mk (Kd.R_below (z11R HO323) hb); have n4_ := Aside0.mk (Kd.R_lower (Kd.R_new' (Kd.R_new' ho0 (Kd.R_lt (z11R HO_4))) (Kd.R_lt (z11R HO_7))) (below_size (z11HB HB))); have n5_ := z11BB BK289 hb; have n6_ := z11BB BK303 hb; have n7_ := Aside0.mk (below_step (z11HB HB) hb); clear HO_4; clear HO_7; clear HO_304001; clear HO323; clear BK289; clear BK303; clear HB; have HO_4 := n0_; have HO_7 := n1_; have HO_304001 := n2_; have HO323 := n3_; have HO326 := n4_; have BK289 := n5_; have BK303 := n6_; have HB := n7_; clear n0_ n1_ n2_ n3_ n4_ n5_ n6_ n7_; (try clear hb); (try clear hb2); (try clear hk); (try clear hi); (try clear ho0)))
           (try simp only [Act.put, List.setIfInBounds_toArray, List.set_cons_zero, List.set_cons_succ])
           go_cut [87] (fun v87 wc => ∃ (kq : Nat) (x87_60 : Bool), v87 = .bool x87_60 ∧ Aside0 (laws_FnExactNeedlessClues.j2 kq t318 t317 x87_60 = some r) ∧ Aside0 (kq ≤ kj36) ∧ Aside0 (Kd.R (Kd.int .i64) 3 wc w.heap.size (fun _ => True) (.slice Ao62 t304.length co62) t318) ∧ Aside0 (Kd.R k55 55 wc w.heap.size (fun _ => True) (.slice Ao24 t315.length co24) t315) ∧ Aside0 (wc.heap[gb289]? = some (.cells #[.int .i64 a0_0, (.slice A0_1 l0_1.length c0_1)] 24 (0, 0))) ∧ Aside0 (wc.heap[gb303]? = some (.cells #[.int .i64 t299, (.slice Ao24 t315.length co24)] 31 (0, 0))) ∧ Aside0 (Below w.heap.size w wc))
           case first =>
            have H := HC61.out
            clear HC61
            replace H := Option.bind_eq_some_iff.mp H
            obtain ⟨t328, A690, H⟩ := H
            replace H : (if t328 = true then (laws_FnExactNeedlessClues.j2 kj36 t318 t317 (t327 != t298)) else (laws_FnExactNeedlessClues.j2 kj36 t318 t317 true)) = some r := H
            have A69 := Aside0.mk A690
            clear A690
            by_cases c70 : t328 = true
            ·subst c70
             have H1 : (laws_FnExactNeedlessClues.j2 kj36 t318 t317 (t327 != t298)) = some r := by rw [if_pos rfl] at H; exact H
             clear H
             have H := H1
             clear H1
             have H' := Aside0.mk H
             clear H
             obtain ⟨Ao71, co71, eo71⟩ := Kd.R_slice HO326.out
             subst eo71
             obtain ⟨Ao72, co72, eo72⟩ := Kd.R_slice HO_4.out
             subst eo72
             go_wp2_with (first | ((with_reducible refine gate_callee (f := 9) rfl ?_); refine goesL_ (some 81) rfl rfl Try.func9 (by kernel_rfl) rfl #[.slice Ao71 t324.length co71, .slice Ao72 t295.length co72] rfl z11AT ?_; (with_reducible refine (laws_eqIntS.calls kj36 _ _ t324 _ _ t295 true _ ?side1 ?side2 ?side3 ?side4 A69.out).mono ?_); (case side1 => repeat (first | exact (Kd.R_reads' HO326.out).2.2 | (with_reducible refine Kd.C_alloc ?_ _) | (with_reducible refine Kd.C_drewN ?_ _) | (with_reducible refine Kd.C_drew ?_))); (case side2 => exact (Kd.R_reads' HO326.out).2.1); (case side3 => repeat (first | exact (Kd.R_reads' HO_4.out).2.2 | (with_reducible refine Kd.C_alloc ?_ _) | (with_reducible refine Kd.C_drewN ?_ _) | (with_reducible refine Kd.C_drew ?_))); (case side4 => exact (Kd.R_reads' HO_4.out).2.1); rintro e w' ⟨rfl, ⟨nd, rfl⟩⟩; refine ⟨_, rfl, ?_⟩))
             go_meet
             case rel => exact ⟨_, ((t327 != t298)), (by first | rfl | (simp; done) | (simp [*]; done)), H', ⟨by have := HJ10.out; have := HJ36.out; first | omega | exact Nat.le_refl _⟩, ⟨by (try simp only [hl304001_36]); (with_reducible repeat (first | apply Kd.R_alloc | apply Kd.R_drewN | apply Kd.R_drew)); exact Kd.R_mono HO_7.out (fun _ hk => trivial)⟩, ⟨by (try simp only [hl304001_36]); (with_reducible repeat (first | apply Kd.R_alloc | apply Kd.R_drewN | apply Kd.R_drew)); exact Kd.R_mono HO_304001.out (fun _ hk => trivial)⟩, ⟨by (try simp only [hl304001_36]); exact (z11LB BK289)⟩, ⟨by (try simp only [hl304001_36]); exact (z11LB BK303)⟩, ⟨by exact (z11HB HB)⟩⟩
            ·replace c70 := Bool.eq_false_iff.mpr c70
             subst c70
             have H1 : (laws_FnExactNeedlessClues.j2 kj36 t318 t317 true) = some r := by rw [if_neg (show ¬ (false = true) by decide)] at H; exact H
             clear H
             have H := H1
             clear H1
             have H' := Aside0.mk H
             clear H
             obtain ⟨Ao73, co73, eo73⟩ := Kd.R_slice HO326.out
             subst eo73
             obtain ⟨Ao74, co74, eo74⟩ := Kd.R_slice HO_4.out
             subst eo74
             go_wp2_with (first | ((with_reducible refine gate_callee (f := 9) rfl ?_); refine goesL_ (some 81) rfl rfl Try.func9 (by kernel_rfl) rfl #[.slice Ao73 t324.length co73, .slice Ao74 t295.length co74] rfl z11AT ?_; (with_reducible refine (laws_eqIntS.calls kj36 _ _ t324 _ _ t295 false _ ?side1 ?side2 ?side3 ?side4 A69.out).mono ?_); (case side1 => repeat (first | exact (Kd.R_reads' HO326.out).2.2 | (with_reducible refine Kd.C_alloc ?_ _) | (with_reducible refine Kd.C_drewN ?_ _) | (with_reducible refine Kd.C_drew ?_))); (case side2 => exact (Kd.R_reads' HO326.out).2.1); (case side3 => repeat (first | exact (Kd.R_reads' HO_4.out).2.2 | (with_reducible refine Kd.C_alloc ?_ _) | (with_reducible refine Kd.C_drewN ?_ _) | (with_reducible refine Kd.C_drew ?_))); (case side4 => exact (Kd.R_reads' HO_4.out).2.1); rintro e w' ⟨rfl, ⟨nd, rfl⟩⟩; refine ⟨_, rfl, ?_⟩))
             go_meet
             case rel => exact ⟨_, (true), (by first | rfl | (simp; done) | (simp [*]; done)), H', ⟨by have := HJ10.out; have := HJ36.out; first | omega | exact Nat.le_refl _⟩, ⟨by (try simp only [hl304001_36]); (with_reducible repeat (first | apply Kd.R_alloc | apply Kd.R_drewN | apply Kd.R_drew)); exact Kd.R_mono HO_7.out (fun _ hk => trivial)⟩, ⟨by (try simp only [hl304001_36]); (with_reducible repeat (first | apply Kd.R_alloc | apply Kd.R_drewN | apply Kd.R_drew)); exact Kd.R_mono HO_304001.out (fun _ hk => trivial)⟩, ⟨by (try simp only [hl304001_36]); exact (z11LB BK289)⟩, ⟨by (try simp only [hl304001_36]); exact (z11LB BK303)⟩, ⟨by exact (z11HB HB)⟩⟩
           case rest =>
            clear HC61
            try clear c1
            try clear c2
            try clear p2
            try clear c3
            try clear c3b0
            try clear c4
            try clear c5
            try clear c6
            try clear c7
            try clear c8
            try clear c9
            try clear c10
            try clear c11
            try clear c12
            try clear c13
            try clear c22
            try clear c27
            try clear c32
            try clear c35
            try clear c42
            try clear c45
            try clear c45b0
            try clear c47
            try clear c52
            try clear c55
            try clear c55b0
            try clear c55b9
            try clear c58
            try clear c58b0
            try clear c58b1
            try clear c58b9
            try clear c64
            try clear c70
            try clear hcz13_0
            try clear hcz13_1
            try clear hcz15_0
            try clear hcz15_1
            try clear hcz19_0
            try clear hcz19_1
            try clear hcz23_0
            try clear hcz23_1
            try clear hcz43_0
            try clear hcz43_1
            try clear hcz5_0
            try clear hcz5_1
            try clear hcz65_0
            try clear hcz65_1
            try clear hfz13_0
            try clear hfz13_1
            try clear hfz15_0
            try clear hfz15_1
            try clear hfz19_0
            try clear hfz19_1
            try clear hfz23_0
            try clear hfz23_1
            try clear hfz43_0
            try clear hfz43_1
            try clear hfz5_0
            try clear hfz5_1
            try clear hfz65_0
            try clear hfz65_1
            try clear p2
            obtain ⟨kq, x87_60, rfl, HA, HJ60, HO_7, HO_304001, BK289, BK303, HB⟩ := hcut
            have hl7_60 := (Kd.R_reads' HO_7.out).1
            rw [hl7_60] at HO_7
            (try simp only [hl7_60])
            (try simp only [hl7_60] at BK289)
            (try simp only [hl7_60] at BK303)
            (try simp only [hl7_60] at HO_304001)
            cases kq with
            | zero => exact absurd HA.out (by simp [laws_FnExactNeedlessClues.j2])
            | succ kj60 =>
             have H := HA.out
             clear HA
             simp only [laws_FnExactNeedlessClues.j2] at H
             by_cases c75 : x87_60 = true
             ·subst c75
              have H1 : (some false) = some r := by rw [if_pos rfl] at H; exact H
              clear H
              have H := H1
              clear H1
              obtain rfl := Option.some.inj H
              go_wp2
              go_ret
              exact ⟨by first | rfl | (simp [errW_none, errW_some] <;> rfl) | (simp [*, errW_none, errW_some] <;> rfl), by exact (z11HB HB)⟩
             ·replace c75 := Bool.eq_false_iff.mpr c75
              subst c75
              have H1 : ((laws_heldIntS.f kj60 t318 1).bind fun t329 => (if t329 < 0 then (some false) else (if t329 = t317 then (some true) else (some false)))) = some r := by rw [if_neg (show ¬ (false = true) by decide)] at H; exact H
              clear H
              have H := H1
              clear H1
              replace H := Option.bind_eq_some_iff.mp H
              obtain ⟨t329, A760, H⟩ := H
              replace H : (if t329 < 0 then (some false) else (if t329 = t317 then (some true) else (some false))) = some r := H
              have A76 := Aside0.mk A760
              clear A760
              by_cases c77 : t329 < 0
              ·rw [if_pos c77] at H
               have c77b0 : decide (t329 < 0) = true := decide_eq_true c77
               (try (have c77b9 := c77b0; simp only [hl304001_36, hl7_60] at c77b9))
               clear c77
               obtain rfl := Option.some.inj H
               go_wp2_with (first | ((with_reducible refine gate_callee (f := 13) rfl ?_); refine goesL_ (some 90) rfl rfl Try.func13 (by kernel_rfl) rfl #[.slice Ao62 t318.length co62, .int .i64 1] rfl z11AT ?_; (with_reducible refine (laws_heldIntS.calls kj60 _ _ t318 1 t329 _ ?side1 ?side2 A76.out).mono ?_); (case side1 => repeat (first | exact (Kd.R_reads' HO_7.out).2.2 | (with_reducible refine Kd.C_alloc ?_ _) | (with_reducible refine Kd.C_drewN ?_ _) | (with_reducible refine Kd.C_drew ?_))); (case side2 => exact (Kd.R_reads' HO_7.out).2.1); rintro e w' ⟨rfl, ⟨nd, rfl⟩⟩; refine ⟨_, rfl, ?_⟩))
               go_ret
               exact ⟨by first | rfl | (simp [errW_none, errW_some] <;> rfl) | (simp [*, errW_none, errW_some] <;> rfl), by exact (z11HB HB)⟩
              ·rw [if_neg c77] at H
               have c77b0 : decide (t329 < 0) = false := decide_eq_false c77
               (try (have c77b9 := c77b0; simp only [hl304001_36, hl7_60] at c77b9))
               clear c77
               by_cases c78 : t329 = t317
               ·rw [if_pos c78] at H
                have c78b0 : (t329 == t317) = true := beq_iff_eq.mpr c78
                have c78b1 : (t329 != t317) = false := bne_eq_false_iff_eq.mpr c78
                (try (have c78b9 := c78b0; simp only [hl304001_36, hl7_60] at c78b9))
                clear c78
                obtain rfl := Option.some.inj H
                go_wp2_with (first | ((with_reducible refine gate_callee (f := 13) rfl ?_); refine goesL_ (some 90) rfl rfl Try.func13 (by kernel_rfl) rfl #[.slice Ao62 t318.length co62, .int .i64 1] rfl z11AT ?_; (with_reducible refine (laws_heldIntS.calls kj60 _ _ t318 1 t329 _ ?side1 ?side2 A76.out).mono ?_); (case side1 => repeat (first | exact (Kd.R_reads' HO_7.out).2.2 | (with_reducible refine Kd.C_alloc ?_ _) | (with_reducible refine Kd.C_drewN ?_ _) | (with_reducible refine Kd.C_drew ?_))); (case side2 => exact (Kd.R_reads' HO_7.out).2.1); rintro e w' ⟨rfl, ⟨nd, rfl⟩⟩; refine ⟨_, rfl, ?_⟩))
                go_ret
                exact ⟨by first | rfl | (simp [errW_none, errW_some] <;> rfl) | (simp [*, errW_none, errW_some] <;> rfl), by exact (z11HB HB)⟩
               ·rw [if_neg c78] at H
                have c78b0 : (t329 == t317) = false := beq_eq_false_iff_ne.mpr c78
                have c78b1 : (t329 != t317) = true := bne_iff_ne.mpr c78
                (try (have c78b9 := c78b0; simp only [hl304001_36, hl7_60] at c78b9))
                obtain rfl := Option.some.inj H
                go_wp2_with (first | ((with_reducible refine gate_callee (f := 13) rfl ?_); refine goesL_ (some 90) rfl rfl Try.func13 (by kernel_rfl) rfl #[.slice Ao62 t318.length co62, .int .i64 1] rfl z11AT ?_; (with_reducible refine (laws_heldIntS.calls kj60 _ _ t318 1 t329 _ ?side1 ?side2 A76.out).mono ?_); (case side1 => repeat (first | exact (Kd.R_reads' HO_7.out).2.2 | (with_reducible refine Kd.C_alloc ?_ _) | (with_reducible refine Kd.C_drewN ?_ _) | (with_reducible refine Kd.C_drew ?_))); (case side2 => exact (Kd.R_reads' HO_7.out).2.1); rintro e w' ⟨rfl, ⟨nd, rfl⟩⟩; refine ⟨_, rfl, ?_⟩))
                go_ret
                exact ⟨by first | rfl | (simp [errW_none, errW_some] <;> rfl) | (simp [*, errW_none, errW_some] <;> rfl), by exact (z11HB HB)⟩
          ·rw [if_neg c58] at H
           have c58b0 : (t319 == t317) = false := beq_eq_false_iff_ne.mpr c58
           have c58b1 : (t319 != t317) = true := bne_iff_ne.mpr c58
           (try (have c58b9 := c58b0; simp only [hl304001_36] at c58b9))
           obtain rfl := Option.some.inj H
           obtain ⟨Ao79, co79, eo79⟩ := Kd.R_slice HO_7.out
           subst eo79
           go_wp2_with (first | ((with_reducible refine gate_callee (f := 12) rfl ?_); refine goesL_ (some 64) rfl rfl Try.func12 (by kernel_rfl) rfl #[.slice Ao79 t304.length co79, .int .i64 1] rfl z11AT ?_; (with_reducible refine (laws_markIntS.calls kj36 (fun k_ => some k_ = (.slice Ao79 t304.length co79 : Value).ownBlock) (.slice Ao79 t304.length co79) t304 1 t317 t318 w _ ?side1 ?side2 A53.out).mono ?_); (case side1 => exact (z11HB HB)); (case side2 => exact Kd.R_tight rfl HO_7.out); rintro e w80 ⟨rfl, hy0, hb, hkp⟩; refine ⟨_, rfl, ?_⟩; have n0_ := Aside0.mk (Kd.R_mono (ok' := fun k_ => some k_ ≠ (.slice Ao79 t304.length co79 : Value).ownBlock) (Kd.R_keptB (HO_4.out) hkp (fun k_ hk_ hs_ => (hk_) hs_)) (fun k_ hk_ => hk_.1)); have n1_ := Aside0.mk (Kd.R_reok rfl hy0 (fun k_ e_ => HO_7.out.1 k_ e_)); have n2_ := Aside0.mk (Kd.R_mono (ok' := fun k_ => True) (Kd.R_keptB ((Kd.R_apart' HO_304001.out (Kd.R_typed HO_7.out) (by decide))) hkp (fun k_ hk_ hs_ => (hk_.2) hs_)) (fun k_ hk_ => trivial)); have n3_ := Aside0.mk (blk_kept (z11LB BK289) hkp (fun hs_ => (fun e_ => (Kd.R_ne HO_7.out BK289.out (by decide)) e_) hs_)); have n4_ := Aside0.mk (blk_kept (z11LB BK303) hkp (fun hs_ => (fun e_ => (Kd.R_ne HO_7.out BK303.out (by decide)) e_) hs_)); have n5_ := Aside0.mk (hb); clear HO_4; clear HO_7; clear HO_304001; clear BK289; clear BK303; clear HB; have HO_4 := n0_; have HO_7 := n1_; have HO_304001 := n2_; have BK289 := n3_; have BK303 := n4_; have HB := n5_; clear n0_ n1_ n2_ n3_ n4_ n5_; (try clear hb); (try clear hkp); (try clear hy0)) | ((with_reducible refine gate_callee (f := 13) rfl ?_); refine goesL_ (some 67) rfl rfl Try.func13 (by kernel_rfl) rfl #[.slice Ao79 t318.length co79, .int .i64 1] rfl (by (try simp only [List.map_toArray, List.map_cons, List.map_nil]); first | done | (rw [show t318.length = t304.length from (Kd.R_reads' HO_7.out).1.symm] <;> rfl) | rfl | (simp only [List.length_drop, List.length_take]; rfl)) ?_; (with_reducible refine (laws_heldIntS.calls kj36 _ _ t318 1 t319 _ ?side1 ?side2 A54.out).mono ?_); (case side1 => repeat (first | exact (Kd.R_reads' HO_7.out).2.2 | (with_reducible refine Kd.C_alloc ?_ _) | (with_reducible refine Kd.C_drewN ?_ _) | (with_reducible refine Kd.C_drew ?_))); (case side2 => rw [show t318.length = t304.length from (Kd.R_reads' HO_7.out).1.symm]; exact (Kd.R_reads' HO_7.out).2.1); rintro e w' ⟨rfl, ⟨nd, rfl⟩⟩; refine ⟨_, rfl, ?_⟩))
           go_ret
           exact ⟨by first | rfl | (simp [errW_none, errW_some] <;> rfl) | (simp [*, errW_none, errW_some] <;> rfl), by exact (z11HB HB)⟩
     ·replace c35 := Bool.eq_false_iff.mpr c35
      subst c35
      have H1 : (some false) = some r := by rw [if_neg (show ¬ (false = true) by decide)] at H; exact H
      clear H
      have H := H1
      clear H1
      obtain rfl := Option.some.inj H
      try go_wp2
      have n0_ := Aside0.mk (Kd.R_drew HO_4.out)
      have n1_ := Aside0.mk (Kd.R_drew HO_7.out)
      have n2_ := Aside0.mk (Kd.R_drew HO_304001.out)
      have n3_ := Aside0.mk (blk_drew BK289.out)
      have n4_ := Aside0.mk (blk_drew BK303.out)
      have n5_ := Aside0.mk (below_drew1 HB.out)
      clear HO_4 HO_7 HO_304001 BK289 BK303 HB
      have HO_4 := n0_
      have HO_7 := n1_
      have HO_304001 := n2_
      have BK289 := n3_
      have BK303 := n4_
      have HB := n5_
      clear n0_ n1_ n2_ n3_ n4_ n5_
      refine start_ (n := 5) (S := fun w' => w'.cell? ⟨gb303, 0, none⟩ = some (.int .i64 t299) ∧ w'.cell? ⟨gb303, 1, none⟩ = some (.slice Ao24 t300.length co24) ∧ w'.cell? ⟨gb289, 0, none⟩ = some (.int .i64 a0_0) ∧ w'.cell? ⟨gb289, 1, none⟩ = some (.slice A0_1 l0_1.length c0_1)) (ds := []) #[false, false, false, false, false] (by kernel_rfl) rfl rfl ⟨z11BC BK303 0, z11BC BK303 1, z11BC BK289 0, z11BC BK289 1⟩ (fun hHeld => ?_)
      generalize wc.drew = w81 at HO_4 HO_7 HO_304001 BK289 BK303 HB hHeld ⊢
      refine take_ (i := 0) (N := some 41) (v := ?_) (a' := ?_) #[true, false, false, false, false] rfl rfl (by kernel_rfl) (fun _ _ _ h => h) (Or.inl ⟨by rfl, ?_⟩) hHeld ?_ ?_
      rotate_left
      ·rintro w' ⟨s0, s1, s2, s3⟩
       go_simp
       with_reducible rfl
      rotate_left
      ·simp only [Act.put, List.setIfInBounds_toArray, List.set_cons_zero, List.set_cons_succ, i64_w, i32_w]
       rfl
      refine take_ (i := 1) (N := some 42) (v := ?_) (a' := ?_) #[true, true, false, false, false] rfl rfl (by kernel_rfl) (fun _ _ _ h => h) (Or.inl ⟨by rfl, ?_⟩) hHeld ?_ ?_
      rotate_left
      ·rintro w' ⟨s0, s1, s2, s3⟩
       go_simp
       with_reducible rfl
      rotate_left
      ·simp only [Act.put, List.setIfInBounds_toArray, List.set_cons_zero, List.set_cons_succ, i64_w, i32_w]
       rfl
      refine one_ (i := 2) (N := some 43) #[true, true, true, false, false] rfl rfl (by kernel_rfl) (by decide) (fun K hK => ?_)
      refine goes_ Try.func7 (by kernel_rfl) rfl #[.agg #[.int .i64 a0_0, .slice A0_1 l0_1.length c0_1]] (by rfl) rfl rfl z11AT ?_
      with_reducible refine (laws_toPuzzle.calls kj10 a0_0 _ _ l0_1 t309 t310 _ ?side1 ?side2 A33.out).mono ?_
      (case side1 => repeat (first | exact (Kd.C_below HR0_1.out HB.out) | (with_reducible refine Kd.C_alloc ?_ _) | (with_reducible refine Kd.C_drewN ?_ _) | (with_reducible refine Kd.C_drew ?_)))
      (case side2 => exact HC0_1.out)
      rintro e w82 ⟨v311, rfl, ho0, hb⟩
      refine ⟨_, rfl, ?_⟩
      have n0_ := Aside0.mk (Kd.R_below (z11R HO_4) hb)
      have n1_ := Aside0.mk (Kd.R_below (z11R HO_7) hb)
      have n2_ := Aside0.mk (Kd.R_elder' (z11R HO_304001) (Kd.R_base ho0) hb)
      have n3_ := Aside0.mk (Kd.R_lower (Kd.R_new' ho0 (Kd.R_lt (z11R HO_304001))) (below_size (z11HB HB)))
      have n4_ := z11BB BK289 hb
      have n5_ := z11BB BK303 hb
      have n6_ := Aside0.mk (below_step (z11HB HB) hb)
      clear HO_4 HO_7 HO_304001 BK289 BK303 HB
      have HO_4 := n0_
      have HO_7 := n1_
      have HO_304001 := n2_
      have HO312 := n3_
      have BK289 := n4_
      have BK303 := n5_
      have HB := n6_
      clear n0_ n1_ n2_ n3_ n4_ n5_ n6_
      (try clear hb)
      (try clear hb2)
      (try clear hk)
      (try clear hi)
      (try clear ho0)
      obtain ⟨Ao83, co83, eo83⟩ := Kd.R_slice HO312.out
      (first | subst eo83 | (injection eo83 with f1_ f2_ f3_; have f4_ := f1_.symm; have f5_ := f3_.symm; clear f1_ f2_ f3_; subst f4_; subst f5_))
      refine hK.out _ _ ⟨z11BC BK303 0, z11BC BK303 1, z11BC BK289 0, z11BC BK289 1⟩ (fun hHeld => ?_)
      clear hK K
      refine norm_ (a' := ?_) ?_ ?_
      rotate_left
      ·show Act.put _ (some 43) _ = _
       simp only [Act.put, List.setIfInBounds_toArray, List.set_cons_zero, List.set_cons_succ, i64_w, i32_w]
       rfl
      refine one_ (i := 3) (N := some 44) #[true, true, true, true, false] rfl rfl (by kernel_rfl) (by decide) (fun K hK => ?_)
      refine goes_ Try.func10 (by kernel_rfl) rfl #[.agg #[.int .i64 t299, .slice Ao24 t300.length co24], .agg #[.int .i64 t309, .slice Ao83 t310.length co83]] (by rfl) rfl rfl z11AT ?_
      with_reducible refine (laws_eqPuzzle.calls kj10 t299 _ _ t300 t309 _ _ t310 false _ ?side1 ?side2 ?side3 ?side4 A34.out).mono ?_
      (case side1 => repeat (first | exact (Kd.R_reads' HO_304001.out).2.2 | (with_reducible refine Kd.C_alloc ?_ _) | (with_reducible refine Kd.C_drewN ?_ _) | (with_reducible refine Kd.C_drew ?_)))
      (case side2 => exact (Kd.R_reads' HO_304001.out).2.1)
      (case side3 => repeat (first | exact (Kd.R_reads' HO312.out).2.2 | (with_reducible refine Kd.C_alloc ?_ _) | (with_reducible refine Kd.C_drewN ?_ _) | (with_reducible refine Kd.C_drew ?_)))
      (case side4 => exact (Kd.R_reads' HO312.out).2.1)
      rintro e w84 ⟨rfl, hb⟩
      refine ⟨_, rfl, ?_⟩
      have n0_ := Aside0.mk (Kd.R_below (z11R HO_4) hb)
      have n1_ := Aside0.mk (Kd.R_below (z11R HO_7) hb)
      have n2_ := Aside0.mk (Kd.R_below (z11R HO_304001) hb)
      have n3_ := Aside0.mk (Kd.R_below (z11R HO312) hb)
      have n4_ := z11BB BK289 hb
      have n5_ := z11BB BK303 hb
      have n6_ := Aside0.mk (below_step (z11HB HB) hb)
      clear HO_4 HO_7 HO_304001 HO312 BK289 BK303 HB
      have HO_4 := n0_
      have HO_7 := n1_
      have HO_304001 := n2_
      have HO312 := n3_
      have BK289 := n4_
      have BK303 := n5_
      have HB := n6_
      clear n0_ n1_ n2_ n3_ n4_ n5_ n6_
      (try clear hb)
      (try clear hb2)
      (try clear hk)
      (try clear hi)
      refine hK.out _ _ ⟨z11BC BK303 0, z11BC BK303 1, z11BC BK289 0, z11BC BK289 1⟩ (fun hHeld => ?_)
      clear hK K
      refine norm_ (a' := ?_) ?_ ?_
      rotate_left
      ·show Act.put _ (some 44) _ = _
       simp only [Act.put, List.setIfInBounds_toArray, List.set_cons_zero, List.set_cons_succ, i64_w, i32_w]
       rfl
      refine pure_ (i := 4) (N := some 45) (v := ?_) (a' := ?_) #[true, true, true, true, true] rfl rfl (by kernel_rfl) (fun _ _ _ h => h) (Or.inl ⟨by rfl, ?_⟩) ?_ ?_
      rotate_left
      ·intro w'
       go_simp
       with_reducible rfl
      rotate_left
      ·simp only [Act.put, List.setIfInBounds_toArray, List.set_cons_zero, List.set_cons_succ, i64_w, i32_w]
       rfl
      refine done_ (by kernel_rfl) ?_
      try go_wp2
      go_ret
      exact ⟨by first | rfl | (simp [errW_none, errW_some] <;> rfl) | (simp [*, errW_none, errW_some] <;> rfl), by exact (z11HB HB)⟩

end Go.Proofs.Ytcbpidgjobbhbaa.QFnExactNeedlessClues
