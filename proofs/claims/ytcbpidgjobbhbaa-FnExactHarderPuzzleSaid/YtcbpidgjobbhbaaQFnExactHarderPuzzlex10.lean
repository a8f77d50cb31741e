/- The functions that a law reaches, as plain Lean functions, and their walks. Written by a program of this session, turned out of the kit's print. Conditions: those that each theorem names. -/
import Derived.Test.YtcbpidgjobbhbaaQFnExactHarderPuzzlex0
import Derived.Test.YtcbpidgjobbhbaaQFnExactHarderPuzzlex2
import Derived.Test.YtcbpidgjobbhbaaQFnExactHarderPuzzlex3
import Derived.Test.YtcbpidgjobbhbaaQFnExactHarderPuzzlex5
import Derived.Test.YtcbpidgjobbhbaaQFnExactHarderPuzzlex9
namespace Go.Proofs.Ytcbpidgjobbhbaa.QFnExactHarderPuzzle
open Go.RowKit Go.Proofs.YtcbpidgjobbhbaaW.PrintWords Go.Proofs.YtcbpidgjobbhbaaW.PrintLast Go.Proofs.YtcbpidgjobbhbaaW.PrintMore
attribute [local go_sem] max2_int min2_int max_two min_two max_three min_three max_four min_four   -- for this text's walks alone
attribute [local go_sem] Go.Proofs.Ytcbpidgjobbhbaa.Kit.isSome_setCell
set_option linter.unusedVariables false
set_option linter.unusedSimpArgs false
-- steps that stand often, each proved where it is used
theorem z10LB {Q P : Prop} (q : Aside0 Q) (h : Q → P := by intro q; (with_reducible repeat (first | refine blk_drewN ?_ _ | refine blk_drew ?_ | refine blk_alloc ?_ _ | refine blk_far ?_ (Aside0.out (by assumption)) _)); exact q) : P := h q.out
theorem z10HB {B : Nat} {w0 w1 w w' : World} (q : Aside0 (Below B w0 w1)) (h : Below B w0 w1 → Below B w w' := by intro q; repeat (first | (with_reducible first | exact q | apply below_alloc | apply pw_below_drewN | apply below_drew1 | refine below_set ?_ (Aside0.out (by assumption))) | exact q)) : Below B w w' := h q.out
theorem z10LT {w0 w : World} {g : Nat} {o : Obj} (q : Aside0 (w0.heap[g]? = some o)) (h : w0.heap[g]? = some o → w.heap[g]? = some o := by intro q; (with_reducible repeat (first | refine blk_drewN ?_ _ | refine blk_drew ?_ | refine blk_alloc ?_ _)); exact q) : g < w.heap.size := blk_lt (h q.out)
theorem z10R {Q P : Prop} (q : Aside0 Q) (h : Q → P := by intro q; (with_reducible repeat (first | apply Kd.R_alloc | apply Kd.R_drewN | apply Kd.R_drew)); exact q) : P := h q.out
theorem z10BC {w : World} {g : Nat} {cs : Array Value} {t : TypeId} {u : Value} (h : Aside0 (w.heap[g]? = some (.cells cs t (0, 0)))) (i : Nat) (e : cs[i]? = some u := by rfl) : w.cell? ⟨g, i, none⟩ = some u := (blk_cell h.out i).trans e
theorem z10BB {w0 w w1 : World} {g : Nat} {o : Obj} (q : Aside0 (w0.heap[g]? = some o)) (hb : Below w.heap.size w w1) (h : w0.heap[g]? = some o → w.heap[g]? = some o := by intro q; (with_reducible repeat (first | refine blk_drewN ?_ _ | refine blk_drew ?_ | refine blk_alloc ?_ _ | refine blk_far ?_ (Aside0.out (by assumption)) _)); exact q) : Aside0 (w1.heap[g]? = some o) := ⟨blk_below (h q.out) hb⟩
theorem z10AT {P : Prop} (h : P := by (try simp only [List.map_toArray, List.map_cons, List.map_nil]); first | done | rfl | (simp only [List.length_drop, List.length_take]; rfl)) : P := h

/-! ### laws_FnExactHarderPuzzle: function 4 -/
mutual
def laws_FnExactHarderPuzzle.j0 : Nat → Bool → Bool → Bool → Int → List (S62) → Int → List (S55) → Int → List (S55) → Int → List (S55) → Option (Bool)
 | 0, _, _, _, _, _, _, _, _, _, _, _ => none
 | k + 1, x5, x8, x40, x304000, x304001, x315000, x315001, x320000, x320001, x326000, x326001 => if x40 = true then (some false) else ((laws_toPuzzle.f k x304000 x304001).bind fun bt327 => ((laws_eqPuzzle.f k x320000 x320001 bt327.1 bt327.2).bind fun t331 => (if t331 = true then ((laws_markPuzzle.f k x320000 x320001 1).bind fun bt332 => (if bt332.1 < 0 then (laws_FnExactHarderPuzzle.j1 k x5 true x304000 x304001 x315000 x315001 x326000 x326001) else ((laws_eqPuzzle.f k x326000 x326001 x315000 x315001).bind fun t334 => (if t334 = true then (laws_FnExactHarderPuzzle.j1 k x5 (x8 != x5) x304000 x304001 x315000 x315001 x326000 x326001) else (laws_FnExactHarderPuzzle.j1 k x5 true x304000 x304001 x315000 x315001 x326000 x326001))))) else (some false))))
def laws_FnExactHarderPuzzle.j1 : Nat → Bool → Bool → Int → List (S62) → Int → List (S55) → Int → List (S55) → Option (Bool)
 | 0, _, _, _, _, _, _, _, _ => none
 | k + 1, x5, x61, x304000, x304001, x315000, x315001, x326000, x326001 => if x61 = true then (some false) else ((laws_markPuzzle.f k x326000 x326001 1).bind fun bt335 => ((laws_heldPuzzle.f k x326000 bt335.2 1).bind fun t337 => (if t337 < 0 then (some false) else (if t337 = bt335.1 then ((laws_toPuzzle.f k x304000 x304001).bind fun bt338 => ((impl_HarderPuzzle.f k bt338.1 bt338.2).bind fun bt342 => ((laws_eqPuzzle.f k bt342.1 bt342.2.1 x315000 x315001).bind fun t348 => (if t348 = true then (laws_FnExactHarderPuzzle.j2 k bt335.1 (bt342.2.2 != x5) x326000 bt335.2) else (laws_FnExactHarderPuzzle.j2 k bt335.1 true x326000 bt335.2))))) else (some false)))))
def laws_FnExactHarderPuzzle.j2 : Nat → Int → Bool → Int → List (S55) → Option (Bool)
 | 0, _, _, _, _ => none
 | k + 1, x10, x87, x326000, x326001 => if x87 = true then (some false) else ((laws_heldPuzzle.f k x326000 x326001 1).bind fun t349 => (if t349 < 0 then (some false) else (if t349 = x10 then (some true) else (some false))))
end
def laws_FnExactHarderPuzzle.f (k : Nat) (a0_0 : Int) (l0_1 : List (S62)) : Option (Bool) := (laws_szPuzzle.f a0_0 l0_1 1048576).bind fun t304 => (if t304 < 0 then (some true) else ((laws_toPuzzle.f k a0_0 l0_1).bind fun bt305 => ((spec_HarderPuzzle.f k bt305.1 bt305.2).bind fun bt309 => ((laws_toPuzzle.f k a0_0 l0_1).bind fun bt315 => ((impl_HarderPuzzle.f k bt315.1 bt315.2).bind fun bt320 => ((laws_eqPuzzle.f k bt320.1 bt320.2.1 bt309.1 bt309.2.1).bind fun t326 => (if t326 = true then (laws_FnExactHarderPuzzle.j0 k bt309.2.2 bt320.2.2 (bt320.2.2 != bt309.2.2) a0_0 l0_1 bt309.1 bt309.2.1 bt315.1 bt315.2 bt320.1 bt320.2.1) else (laws_FnExactHarderPuzzle.j0 k bt309.2.2 bt320.2.2 true a0_0 l0_1 bt309.1 bt309.2.1 bt315.1 bt315.2 bt320.1 bt320.2.1))))))))
theorem laws_FnExactHarderPuzzle.mono_l : ∀ k, (∀ y0 y1 y2 y3 y4 y5 y6 y7 y8 y9 y10, LeO (laws_FnExactHarderPuzzle.j0 k y0 y1 y2 y3 y4 y5 y6 y7 y8 y9 y10) (laws_FnExactHarderPuzzle.j0 (k + 1) y0 y1 y2 y3 y4 y5 y6 y7 y8 y9 y10)) ∧ (∀ y0 y1 y2 y3 y4 y5 y6 y7, LeO (laws_FnExactHarderPuzzle.j1 k y0 y1 y2 y3 y4 y5 y6 y7) (laws_FnExactHarderPuzzle.j1 (k + 1) y0 y1 y2 y3 y4 y5 y6 y7)) ∧ (∀ y0 y1 y2 y3, LeO (laws_FnExactHarderPuzzle.j2 k y0 y1 y2 y3) (laws_FnExactHarderPuzzle.j2 (k + 1) y0 y1 y2 y3))
 | 0 => ⟨fun _ _ _ _ _ _ _ _ _ _ _ r h => by simp [laws_FnExactHarderPuzzle.j0] at h, fun _ _ _ _ _ _ _ _ r h => by simp [laws_FnExactHarderPuzzle.j1] at h, fun _ _ _ _ r h => by simp [laws_FnExactHarderPuzzle.j2] at h⟩
 | k + 1 => by
  obtain ⟨ih0, ih1, ih2⟩ := laws_FnExactHarderPuzzle.mono_l k
  refine ⟨?_, ?_, ?_⟩
  ·intro y0 y1 y2 y3 y4 y5 y6 y7 y8 y9 y10
   unfold laws_FnExactHarderPuzzle.j0
   repeat' first
   | (with_reducible exact ih0 _ _ _ _ _ _ _ _ _ _ _)
   | (with_reducible exact ih1 _ _ _ _ _ _ _ _)
   | (with_reducible exact ih2 _ _ _ _)
   | (with_reducible exact impl_HarderPuzzle.mono _ _ _)
   | (with_reducible exact laws_eqPuzzle.mono _ _ _ _ _)
   | (with_reducible exact laws_heldPuzzle.mono _ _ _ _)
   | (with_reducible exact laws_markPuzzle.mono _ _ _ _)
   | (with_reducible exact laws_toPuzzle.mono _ _ _)
   | (with_reducible exact spec_HarderPuzzle.mono _ _ _)
   | (with_reducible exact LeO.refl _)
   | (with_reducible exact LeO.none _)
   | (with_reducible refine LeO.ite ?_ ?_)
   | (with_reducible refine LeO.bind ?_ (fun _ => ?_))
   | exact ih0 _ _ _ _ _ _ _ _ _ _ _
   | exact ih1 _ _ _ _ _ _ _ _
   | exact ih2 _ _ _ _
   | exact impl_HarderPuzzle.mono _ _ _
   | exact laws_eqPuzzle.mono _ _ _ _ _
   | exact laws_heldPuzzle.mono _ _ _ _
   | exact laws_markPuzzle.mono _ _ _ _
   | exact laws_toPuzzle.mono _ _ _
   | exact spec_HarderPuzzle.mono _ _ _
   | exact LeO.none _
   | refine LeO.ite ?_ ?_
   | refine LeO.bind ?_ (fun _ => ?_)
  ·intro y0 y1 y2 y3 y4 y5 y6 y7
   unfold laws_FnExactHarderPuzzle.j1
   repeat' first
   | (with_reducible exact ih0 _ _ _ _ _ _ _ _ _ _ _)
   | (with_reducible exact ih1 _ _ _ _ _ _ _ _)
   | (with_reducible exact ih2 _ _ _ _)
   | (with_reducible exact impl_HarderPuzzle.mono _ _ _)
   | (with_reducible exact laws_eqPuzzle.mono _ _ _ _ _)
   | (with_reducible exact laws_heldPuzzle.mono _ _ _ _)
   | (with_reducible exact laws_markPuzzle.mono _ _ _ _)
   | (with_reducible exact laws_toPuzzle.mono _ _ _)
   | (with_reducible exact spec_HarderPuzzle.mono _ _ _)
   | (with_reducible exact LeO.refl _)
   | (with_reducible exact LeO.none _)
   | (with_reducible refine LeO.ite ?_ ?_)
   | (with_reducible refine LeO.bind ?_ (fun _ => ?_))
   | exact ih0 _ _ _ _ _ _ _ _ _ _ _
   | exact ih1 _ _ _ _ _ _ _ _
   | exact ih2 _ _ _ _
   | exact impl_HarderPuzzle.mono _ _ _
   | exact laws_eqPuzzle.mono _ _ _ _ _
   | exact laws_heldPuzzle.mono _ _ _ _
   | exact laws_markPuzzle.mono _ _ _ _
   | exact laws_toPuzzle.mono _ _ _
   | exact spec_HarderPuzzle.mono _ _ _
   | exact LeO.none _
   | refine LeO.ite ?_ ?_
   | refine LeO.bind ?_ (fun _ => ?_)
  ·intro y0 y1 y2 y3
   unfold laws_FnExactHarderPuzzle.j2
   repeat' first
   | (with_reducible exact ih0 _ _ _ _ _ _ _ _ _ _ _)
   | (with_reducible exact ih1 _ _ _ _ _ _ _ _)
   | (with_reducible exact ih2 _ _ _ _)
   | (with_reducible exact impl_HarderPuzzle.mono _ _ _)
   | (with_reducible exact laws_eqPuzzle.mono _ _ _ _ _)
   | (with_reducible exact laws_heldPuzzle.mono _ _ _ _)
   | (with_reducible exact laws_markPuzzle.mono _ _ _ _)
   | (with_reducible exact laws_toPuzzle.mono _ _ _)
   | (with_reducible exact spec_HarderPuzzle.mono _ _ _)
   | (with_reducible exact LeO.refl _)
   | (with_reducible exact LeO.none _)
   | (with_reducible refine LeO.ite ?_ ?_)
   | (with_reducible refine LeO.bind ?_ (fun _ => ?_))
   | exact ih0 _ _ _ _ _ _ _ _ _ _ _
   | exact ih1 _ _ _ _ _ _ _ _
   | exact ih2 _ _ _ _
   | exact impl_HarderPuzzle.mono _ _ _
   | exact laws_eqPuzzle.mono _ _ _ _ _
   | exact laws_heldPuzzle.mono _ _ _ _
   | exact laws_markPuzzle.mono _ _ _ _
   | exact laws_toPuzzle.mono _ _ _
   | exact spec_HarderPuzzle.mono _ _ _
   | exact LeO.none _
   | refine LeO.ite ?_ ?_
   | refine LeO.bind ?_ (fun _ => ?_)
theorem laws_FnExactHarderPuzzle.mono : ∀ a0 a1 k, LeO (laws_FnExactHarderPuzzle.f k a0 a1) (laws_FnExactHarderPuzzle.f (k + 1) a0 a1) := by
 intro a0 a1 k
 obtain ⟨ih0, ih1, ih2⟩ := laws_FnExactHarderPuzzle.mono_l k
 unfold laws_FnExactHarderPuzzle.f
 repeat' first
   | (with_reducible exact ih0 _ _ _ _ _ _ _ _ _ _ _)
   | (with_reducible exact ih1 _ _ _ _ _ _ _ _)
   | (with_reducible exact ih2 _ _ _ _)
   | (with_reducible exact impl_HarderPuzzle.mono _ _ _)
   | (with_reducible exact laws_eqPuzzle.mono _ _ _ _ _)
   | (with_reducible exact laws_heldPuzzle.mono _ _ _ _)
   | (with_reducible exact laws_markPuzzle.mono _ _ _ _)
   | (with_reducible exact laws_toPuzzle.mono _ _ _)
   | (with_reducible exact spec_HarderPuzzle.mono _ _ _)
   | (with_reducible exact LeO.refl _)
   | (with_reducible exact LeO.none _)
   | (with_reducible refine LeO.ite ?_ ?_)
   | (with_reducible refine LeO.bind ?_ (fun _ => ?_))
   | exact ih0 _ _ _ _ _ _ _ _ _ _ _
   | exact ih1 _ _ _ _ _ _ _ _
   | exact ih2 _ _ _ _
   | exact impl_HarderPuzzle.mono _ _ _
   | exact laws_eqPuzzle.mono _ _ _ _ _
   | exact laws_heldPuzzle.mono _ _ _ _
   | exact laws_markPuzzle.mono _ _ _ _
   | exact laws_toPuzzle.mono _ _ _
   | exact spec_HarderPuzzle.mono _ _ _
   | exact LeO.none _
   | refine LeO.ite ?_ ?_
   | refine LeO.bind ?_ (fun _ => ?_)
set_option maxHeartbeats 8000000 in
set_option maxRecDepth 100000 in
theorem laws_FnExactHarderPuzzle.calls (k : Nat) (a0_0 : Int) (A0_1 : Option Addr) (c0_1 : Nat) (l0_1 : List (S62)) (r : Bool) (w : World) (hr0_1 : Kd.C k62 w A0_1 l0_1.length l0_1) (hc0_1 : l0_1.length ≤ c0_1) (h : laws_FnExactHarderPuzzle.f k a0_0 l0_1 = some r) :
  Calls Try.prog 4 #[.agg #[.int .i64 a0_0, .slice A0_1 l0_1.length c0_1]] w fun e w' => e = .returned (.bool r) ∧ Below w.heap.size w w' := by
 have hu24 := Try.underlying24
 have hu31 := Try.underlying31
 have HR0_1 := Aside0.mk hr0_1
 have HC0_1 := Aside0.mk hc0_1
 clear hr0_1 hc0_1
 have HB := Aside0.mk (Below.refl w.heap.size w)
 have H : ((laws_szPuzzle.f a0_0 l0_1 1048576).bind fun t304 => (if t304 < 0 then (some true) else ((laws_toPuzzle.f k a0_0 l0_1).bind fun bt305 => ((spec_HarderPuzzle.f k bt305.1 bt305.2).bind fun bt309 => ((laws_toPuzzle.f k a0_0 l0_1).bind fun bt315 => ((impl_HarderPuzzle.f k bt315.1 bt315.2).bind fun bt320 => ((laws_eqPuzzle.f k bt320.1 bt320.2.1 bt309.1 bt309.2.1).bind fun t326 => (if t326 = true then (laws_FnExactHarderPuzzle.j0 k bt309.2.2 bt320.2.2 (bt320.2.2 != bt309.2.2) a0_0 l0_1 bt309.1 bt309.2.1 bt315.1 bt315.2 bt320.1 bt320.2.1) else (laws_FnExactHarderPuzzle.j0 k bt309.2.2 bt320.2.2 true a0_0 l0_1 bt309.1 bt309.2.1 bt315.1 bt315.2 bt320.1 bt320.2.1))))))))) = some r := h
 clear h
 replace H := Option.bind_eq_some_iff.mp H
 obtain ⟨t304, A20, H⟩ := H
 replace H : (if t304 < 0 then (some true) else ((laws_toPuzzle.f k a0_0 l0_1).bind fun bt305 => ((spec_HarderPuzzle.f k bt305.1 bt305.2).bind fun bt309 => ((laws_toPuzzle.f k a0_0 l0_1).bind fun bt315 => ((impl_HarderPuzzle.f k bt315.1 bt315.2).bind fun bt320 => ((laws_eqPuzzle.f k bt320.1 bt320.2.1 bt309.1 bt309.2.1).bind fun t326 => (if t326 = true then (laws_FnExactHarderPuzzle.j0 k bt309.2.2 bt320.2.2 (bt320.2.2 != bt309.2.2) a0_0 l0_1 bt309.1 bt309.2.1 bt315.1 bt315.2 bt320.1 bt320.2.1) else (laws_FnExactHarderPuzzle.j0 k bt309.2.2 bt320.2.2 true a0_0 l0_1 bt309.1 bt309.2.1 bt315.1 bt315.2 bt320.1 bt320.2.1)))))))) = some r := H
 have A2 := Aside0.mk A20
 clear A20
 by_cases c3 : t304 < 0
 ·rw [if_pos c3] at H
  have c3b0 : decide (t304 < 0) = true := decide_eq_true c3
  clear c3
  obtain rfl := Option.some.inj H
  go_enter Try.func4, Try.ntmps4
  go_wp2_with (first | ((with_reducible refine gate_dst (N := 1) rfl ?_); refine box_event ?hg (N := 1) ?hd (cs := #[.int .i64 a0_0, .slice A0_1 l0_1.length c0_1]) (t := 24) ?hr ?_; (case hd => rfl); (case hg => rfl); (case hr => first | (go_simp; done) | (go_simp; rfl)); intro gb303 hg w4 hbox hb; have n0_ := Aside0.mk (below_step (z10HB HB) hb); have n1_ := Aside0.mk (hbox); have n2_ := Aside0.mk ((by rw [hg]; exact (below_size (z10HB HB)) : w.heap.size ≤ gb303)); have n3_ := Aside0.mk ((by rw [hg]; exact (below_size (z10HB HB)) : w.heap.size ≤ gb303)); clear HB; have HB := n0_; have BK303 := n1_; have GW303 := n2_; have GE303 := n3_; clear n0_ n1_ n2_ n3_; clear hb hbox hg; have hcz5_0 : w4.cell? ⟨gb303, 0, none⟩ = some (.int .i64 a0_0) := z10BC BK303 0; have hcz5_1 : w4.cell? ⟨gb303, 1, none⟩ = some (.slice A0_1 l0_1.length c0_1) := z10BC BK303 1; have hfz5_0 := blk_frozen BK303.out 0; have hfz5_1 := blk_frozen BK303.out 1) | ((with_reducible refine gate_callee (f := 5) rfl ?_); refine goesL_ (some 16) rfl rfl Try.func5 (by kernel_rfl) rfl #[.agg #[.int .i64 a0_0, .slice A0_1 l0_1.length c0_1], .int .i64 1048576] rfl z10AT ?_; (with_reducible refine (laws_szPuzzle.calls a0_0 _ _ l0_1 1048576 t304 _ ?side1 ?side2 A2.out).mono ?_); (case side1 => repeat (first | exact (Kd.C_below HR0_1.out HB.out) | (with_reducible refine Kd.C_alloc ?_ _) | (with_reducible refine Kd.C_drewN ?_ _) | (with_reducible refine Kd.C_drew ?_))); (case side2 => exact HC0_1.out); rintro e w6 ⟨rfl, hb⟩; refine ⟨_, rfl, ?_⟩; have n0_ := z10BB BK303 hb; have n1_ := Aside0.mk (below_step (z10HB HB) hb); clear BK303; clear HB; have BK303 := n0_; have HB := n1_; clear n0_ n1_; (try clear hb); (try clear hb2); (try clear hk); (try clear hi)))
  go_ret
  exact ⟨by first | rfl | (simp [errW_none, errW_some] <;> rfl) | (simp [*, errW_none, errW_some] <;> rfl), by exact (z10HB HB)⟩
 ·rw [if_neg c3] at H
  have c3b0 : decide (t304 < 0) = false := decide_eq_false c3
  clear c3
  replace H := Option.bind_eq_some_iff.mp H
  obtain ⟨⟨t305, t306⟩, A70, H⟩ := H
  replace H : ((spec_HarderPuzzle.f k t305 t306).bind fun bt309 => ((laws_toPuzzle.f k a0_0 l0_1).bind fun bt315 => ((impl_HarderPuzzle.f k bt315.1 bt315.2).bind fun bt320 => ((laws_eqPuzzle.f k bt320.1 bt320.2.1 bt309.1 bt309.2.1).bind fun t326 => (if t326 = true then (laws_FnExactHarderPuzzle.j0 k bt309.2.2 bt320.2.2 (bt320.2.2 != bt309.2.2) a0_0 l0_1 bt309.1 bt309.2.1 bt315.1 bt315.2 bt320.1 bt320.2.1) else (laws_FnExactHarderPuzzle.j0 k bt309.2.2 bt320.2.2 true a0_0 l0_1 bt309.1 bt309.2.1 bt315.1 bt315.2 bt320.1 bt320.2.1)))))) = some r := H
  have A7 := Aside0.mk A70
  clear A70
  replace H := Option.bind_eq_some_iff.mp H
  obtain ⟨⟨t309, t310, t313⟩, A80, H⟩ := H
  replace H : ((laws_toPuzzle.f k a0_0 l0_1).bind fun bt315 => ((impl_HarderPuzzle.f k bt315.1 bt315.2).bind fun bt320 => ((laws_eqPuzzle.f k bt320.1 bt320.2.1 t309 t310).bind fun t326 => (if t326 = true then (laws_FnExactHarderPuzzle.j0 k t313 bt320.2.2 (bt320.2.2 != t313) a0_0 l0_1 t309 t310 bt315.1 bt315.2 bt320.1 bt320.2.1) else (laws_FnExactHarderPuzzle.j0 k t313 bt320.2.2 true a0_0 l0_1 t309 t310 bt315.1 bt315.2 bt320.1 bt320.2.1))))) = some r := H
  have A8 := Aside0.mk A80
  clear A80
  replace H := Option.bind_eq_some_iff.mp H
  obtain ⟨⟨t315, t316⟩, A90, H⟩ := H
  replace H : ((impl_HarderPuzzle.f k t315 t316).bind fun bt320 => ((laws_eqPuzzle.f k bt320.1 bt320.2.1 t309 t310).bind fun t326 => (if t326 = true then (laws_FnExactHarderPuzzle.j0 k t313 bt320.2.2 (bt320.2.2 != t313) a0_0 l0_1 t309 t310 t315 t316 bt320.1 bt320.2.1) else (laws_FnExactHarderPuzzle.j0 k t313 bt320.2.2 true a0_0 l0_1 t309 t310 t315 t316 bt320.1 bt320.2.1)))) = some r := H
  have A9 := Aside0.mk A90
  clear A90
  replace H := Option.bind_eq_some_iff.mp H
  obtain ⟨⟨t320, t321, t324⟩, A100, H⟩ := H
  replace H : ((laws_eqPuzzle.f k t320 t321 t309 t310).bind fun t326 => (if t326 = true then (laws_FnExactHarderPuzzle.j0 k t313 t324 (t324 != t313) a0_0 l0_1 t309 t310 t315 t316 t320 t321) else (laws_FnExactHarderPuzzle.j0 k t313 t324 true a0_0 l0_1 t309 t310 t315 t316 t320 t321))) = some r := H
  have A10 := Aside0.mk A100
  clear A100
  have HC11 := Aside0.mk H
  clear H
  go_enter Try.func4, Try.ntmps4
  go_upto_region 8 with (first | ((with_reducible refine gate_dst (N := 1) rfl ?_); refine box_event ?hg (N := 1) ?hd (cs := #[.int .i64 a0_0, .slice A0_1 l0_1.length c0_1]) (t := 24) ?hr ?_; (case hd => rfl); (case hg => rfl); (case hr => first | (go_simp; done) | (go_simp; rfl)); intro gb303 hg w12 hbox hb; have n0_ := Aside0.mk (below_step (z10HB HB) hb); have n1_ := Aside0.mk (hbox); have n2_ := Aside0.mk ((by rw [hg]; exact (below_size (z10HB HB)) : w.heap.size ≤ gb303)); have n3_ := Aside0.mk ((by rw [hg]; exact (below_size (z10HB HB)) : w.heap.size ≤ gb303)); clear HB; have HB := n0_; have BK303 := n1_; have GW303 := n2_; have GE303 := n3_; clear n0_ n1_ n2_ n3_; clear hb hbox hg; have hcz13_0 : w12.cell? ⟨gb303, 0, none⟩ = some (.int .i64 a0_0) := z10BC BK303 0; have hcz13_1 : w12.cell? ⟨gb303, 1, none⟩ = some (.slice A0_1 l0_1.length c0_1) := z10BC BK303 1; have hfz13_0 := blk_frozen BK303.out 0; have hfz13_1 := blk_frozen BK303.out 1) | ((with_reducible refine gate_callee (f := 5) rfl ?_); refine goesL_ (some 16) rfl rfl Try.func5 (by kernel_rfl) rfl #[.agg #[.int .i64 a0_0, .slice A0_1 l0_1.length c0_1], .int .i64 1048576] rfl z10AT ?_; (with_reducible refine (laws_szPuzzle.calls a0_0 _ _ l0_1 1048576 t304 _ ?side1 ?side2 A2.out).mono ?_); (case side1 => repeat (first | exact (Kd.C_below HR0_1.out HB.out) | (with_reducible refine Kd.C_alloc ?_ _) | (with_reducible refine Kd.C_drewN ?_ _) | (with_reducible refine Kd.C_drew ?_))); (case side2 => exact HC0_1.out); rintro e w14 ⟨rfl, hb⟩; refine ⟨_, rfl, ?_⟩; have n0_ := z10BB BK303 hb; have n1_ := Aside0.mk (below_step (z10HB HB) hb); clear BK303; clear HB; have BK303 := n0_; have HB := n1_; clear n0_ n1_; (try clear hb); (try clear hb2); (try clear hk); (try clear hi); have hcz15_0 : w14.cell? ⟨gb303, 0, none⟩ = some (.int .i64 a0_0) := z10BC BK303 0; have hcz15_1 : w14.cell? ⟨gb303, 1, none⟩ = some (.slice A0_1 l0_1.length c0_1) := z10BC BK303 1; have hfz15_0 := blk_frozen BK303.out 0; have hfz15_1 := blk_frozen BK303.out 1) | ((with_reducible refine gate_callee (f := 7) rfl ?_); refine goesL_ (some 21) rfl rfl Try.func7 (by kernel_rfl) rfl #[.agg #[.int .i64 a0_0, .slice A0_1 l0_1.length c0_1]] rfl z10AT ?_; (with_reducible refine (laws_toPuzzle.calls k a0_0 _ _ l0_1 t305 t306 _ ?side1 ?side2 A7.out).mono ?_); (case side1 => repeat (first | exact (Kd.C_below HR0_1.out HB.out) | (with_reducible refine Kd.C_alloc ?_ _) | (with_reducible refine Kd.C_drewN ?_ _) | (with_reducible refine Kd.C_drew ?_))); (case side2 => exact HC0_1.out); rintro e w16 ⟨v307, rfl, ho0, hb⟩; refine ⟨_, rfl, ?_⟩; have n0_ := Aside0.mk (Kd.R_lower ho0 (below_size (z10HB HB))); have n1_ := z10BB BK303 hb; have n2_ := Aside0.mk (below_step (z10HB HB) hb); clear BK303; clear HB; have HO308 := n0_; have BK303 := n1_; have HB := n2_; clear n0_ n1_ n2_; (try clear hb); (try clear hb2); (try clear hk); (try clear hi); (try clear ho0); obtain ⟨Ao17, co17, eo17⟩ := Kd.R_slice HO308.out; subst eo17) | ((with_reducible refine gate_callee (f := 14) rfl ?_); refine goesL_ (some 22) rfl rfl Try.func14 (by kernel_rfl) rfl #[.agg #[.int .i64 t305, .slice Ao17 t306.length co17]] rfl z10AT ?_; (with_reducible refine (spec_HarderPuzzle.calls k t305 _ _ t306 t309 t310 t313 _ ?side1 ?side2 A8.out).mono ?_); (case side1 => repeat (first | exact (Kd.R_reads' HO308.out).2.2 | (with_reducible refine Kd.C_alloc ?_ _) | (with_reducible refine Kd.C_drewN ?_ _) | (with_reducible refine Kd.C_drew ?_))); (case side2 => exact (Kd.R_reads' HO308.out).2.1); rintro e w18 ⟨v311, rfl, ho0, hb⟩; refine ⟨_, rfl, ?_⟩; have n0_ := Aside0.mk (Kd.R_elder' (z10R HO308) (Kd.R_base ho0) hb); have n1_ := Aside0.mk (Kd.R_lower (Kd.R_new' ho0 (Kd.R_lt (z10R HO308))) (below_size (z10HB HB))); have n2_ := z10BB BK303 hb; have n3_ := Aside0.mk (below_step (z10HB HB) hb); clear HO308; clear BK303; clear HB; have HO308 := n0_; have HO312 := n1_; have BK303 := n2_; have HB := n3_; clear n0_ n1_ n2_ n3_; (try clear hb); (try clear hb2); (try clear hk); (try clear hi); (try clear ho0)) | ((with_reducible refine gate_dst (N := 4) rfl ?_); refine box_event ?hg (N := 4) ?hd (cs := #[.int .i64 0, .slice none 0 0]) (t := 31) ?hr ?_; (case hd => rfl); (case hg => rfl); (case hr => first | (go_simp; done) | (go_simp; rfl)); intro gb314 hg w19 hbox hb; have n0_ := Aside0.mk (Kd.R_below (z10R HO308) hb); have n1_ := Aside0.mk (Kd.R_below (z10R HO312) hb); have n2_ := z10BB BK303 hb; have n3_ := Aside0.mk (below_step (z10HB HB) hb); have n4_ := Aside0.mk (hbox); have n5_ := Aside0.mk ((by rw [hg]; exact (below_size (z10HB HB)) : w.heap.size ≤ gb314)); have n6_ := Aside0.mk ((by rw [hg]; exact (below_size (z10HB HB)) : w.heap.size ≤ gb314)); have n7_ := Aside0.mk ((by rw [hg]; exact Nat.ne_of_lt ((z10LT BK303)) : gb303 ≠ gb314)); have n8_ := Aside0.mk ((by rw [hg]; exact Nat.ne_of_gt ((z10LT BK303)) : gb314 ≠ gb303)); clear HO308; clear HO312; clear BK303; clear HB; have HO308 := n0_; have HO312 := n1_; have BK303 := n2_; have HB := n3_; have BK314 := n4_; have GW314 := n5_; have GE314 := n6_; have NB303_314 := n7_; have NB314_303 := n8_; clear n0_ n1_ n2_ n3_ n4_ n5_ n6_ n7_ n8_; clear hb hbox hg; have hnb20 := NB314_303.out; have hnc20 := NB303_314.out; have hcz21_0 : w19.cell? ⟨gb314, 0, none⟩ = some (.int .i64 0) := z10BC BK314 0; have hcz21_1 : w19.cell? ⟨gb314, 1, none⟩ = some (.slice none 0 0) := z10BC BK314 1; have hfz21_0 := blk_frozen BK314.out 0; have hfz21_1 := blk_frozen BK314.out 1; obtain ⟨Ao22, co22, eo22⟩ := Kd.R_slice HO312.out; subst eo22; have hcz23_0 : w19.cell? ⟨gb303, 0, none⟩ = some (.int .i64 a0_0) := z10BC BK303 0; have hcz23_1 : w19.cell? ⟨gb303, 1, none⟩ = some (.slice A0_1 l0_1.length c0_1) := z10BC BK303 1; have hfz23_0 := blk_frozen BK303.out 0; have hfz23_1 := blk_frozen BK303.out 1) | ((with_reducible refine gate_callee (f := 7) rfl ?_); refine goesL_ (some 26) rfl rfl Try.func7 (by kernel_rfl) rfl #[.agg #[.int .i64 a0_0, .slice A0_1 l0_1.length c0_1]] rfl z10AT ?_; (with_reducible refine (laws_toPuzzle.calls k a0_0 _ _ l0_1 t315 t316 _ ?side1 ?side2 A9.out).mono ?_); (case side1 => exact Kd.C_below HR0_1.out (z10HB HB)); (case side2 => exact HC0_1.out); rintro e w24 ⟨v317, rfl, ho0, hb⟩; refine ⟨_, rfl, ?_⟩; have n0_ := Aside0.mk (Kd.R_elder' (by (with_reducible repeat (first | apply Kd.R_alloc | apply Kd.R_drewN | apply Kd.R_drew)); exact (Kd.R_mono (Kd.R_far (p := ⟨gb314, 1, none⟩) (Kd.R_far (p := ⟨gb314, 0, none⟩) (Kd.R_types HO308.out BK314.out (by decide)) (fun _ hk => hk.2) (.int .i64 t309)) (fun _ hk => hk.2) (.slice Ao22 t310.length co22)) (fun _ h_ => h_.1))) (Kd.R_base ho0) hb); have n1_ := Aside0.mk (Kd.R_elder' (by (with_reducible repeat (first | apply Kd.R_alloc | apply Kd.R_drewN | apply Kd.R_drew)); exact (Kd.R_mono (Kd.R_far (p := ⟨gb314, 1, none⟩) (Kd.R_far (p := ⟨gb314, 0, none⟩) (Kd.R_types HO312.out BK314.out (by decide)) (fun _ hk => hk.2) (.int .i64 t309)) (fun _ hk => hk.2) (.slice Ao22 t310.length co22)) (fun _ h_ => h_.1))) (Kd.R_base ho0) hb); have n2_ := Aside0.mk (Kd.R_lower (Kd.R_new' (Kd.R_new' ho0 (Kd.R_lt (by (with_reducible repeat (first | apply Kd.R_alloc | apply Kd.R_drewN | apply Kd.R_drew)); exact (Kd.R_mono (Kd.R_far (p := ⟨gb314, 1, none⟩) (Kd.R_far (p := ⟨gb314, 0, none⟩) (Kd.R_types HO308.out BK314.out (by decide)) (fun _ hk => hk.2) (.int .i64 t309)) (fun _ hk => hk.2) (.slice Ao22 t310.length co22)) (fun _ h_ => h_.1))))) (Kd.R_lt (by (with_reducible repeat (first | apply Kd.R_alloc | apply Kd.R_drewN | apply Kd.R_drew)); exact (Kd.R_mono (Kd.R_far (p := ⟨gb314, 1, none⟩) (Kd.R_far (p := ⟨gb314, 0, none⟩) (Kd.R_types HO312.out BK314.out (by decide)) (fun _ hk => hk.2) (.int .i64 t309)) (fun _ hk => hk.2) (.slice Ao22 t310.length co22)) (fun _ h_ => h_.1))))) (below_size (z10HB HB))); have n3_ := z10BB BK303 hb; have n4_ := Aside0.mk (blk_below (g := gb314) (o := .cells #[.int .i64 t309, .slice Ao22 t310.length co22] 31 (0, 0)) (by (with_reducible repeat (first | refine blk_drewN ?_ _ | refine blk_drew ?_ | refine blk_alloc ?_ _)); refine blk_put (cs := #[.int .i64 t309, .slice none 0 0]) ?_ 1 _ rfl; (with_reducible repeat (first | refine blk_drewN ?_ _ | refine blk_drew ?_ | refine blk_alloc ?_ _)); refine blk_put (cs := #[.int .i64 0, .slice none 0 0]) ?_ 0 _ rfl; exact (z10LB BK314)) hb); have n5_ := Aside0.mk (below_step (z10HB HB) hb); clear HO308; clear HO312; clear BK303; clear BK314; clear HB; have HO308 := n0_; have HO312 := n1_; have HO318 := n2_; have BK303 := n3_; have BK314 := n4_; have HB := n5_; clear n0_ n1_ n2_ n3_ n4_ n5_; (try clear hb); (try clear hb2); (try clear hk); (try clear hi); (try clear ho0)) | ((with_reducible refine gate_dst (N := 6) rfl ?_); refine box_event ?hg (N := 6) ?hd (cs := #[.int .i64 0, .slice none 0 0]) (t := 31) ?hr ?_; (case hd => rfl); (case hg => rfl); (case hr => first | (go_simp; done) | (go_simp; rfl)); intro gb319 hg w25 hbox hb; have n0_ := Aside0.mk (Kd.R_below (z10R HO308) hb); have n1_ := Aside0.mk (Kd.R_below (z10R HO312) hb); have n2_ := Aside0.mk (Kd.R_below (z10R HO318) hb); have n3_ := z10BB BK303 hb; have n4_ := z10BB BK314 hb; have n5_ := Aside0.mk (below_step (z10HB HB) hb); have n6_ := Aside0.mk (hbox); have n7_ := Aside0.mk ((by rw [hg]; exact (below_size (z10HB HB)) : w.heap.size ≤ gb319)); have n8_ := Aside0.mk ((by rw [hg]; exact (below_size (z10HB HB)) : w.heap.size ≤ gb319)); have n9_ := Aside0.mk ((by rw [hg]; exact Nat.ne_of_lt ((z10LT BK303)) : gb303 ≠ gb319)); have n10_ := Aside0.mk ((by rw [hg]; exact Nat.ne_of_gt ((z10LT BK303)) : gb319 ≠ gb303)); have n11_ := Aside0.mk ((by rw [hg]; exact Nat.ne_of_lt ((z10LT BK314)) : gb314 ≠ gb319)); have n12_ := Aside0.mk ((by rw [hg]; exact Nat.ne_of_gt ((z10LT BK314)) : gb319 ≠ gb314)); clear HO308; clear HO312; clear HO318; clear BK303; clear BK314; clear HB; have HO308 := n0_; have HO312 := n1_; have HO318 := n2_; have BK303 := n3_; have BK314 := n4_; have HB := n5_; have BK319 := n6_; have GW319 := n7_; have GE319 := n8_; have NB303_319 := n9_; have NB319_303 := n10_; have NB314_319 := n11_; have NB319_314 := n12_; clear n0_ n1_ n2_ n3_ n4_ n5_ n6_ n7_ n8_ n9_ n10_ n11_ n12_; clear hb hbox hg; have hnb26 := NB319_303.out; have hnc26 := NB303_319.out; have hnb27 := NB319_314.out; have hnc27 := NB314_319.out; have hcz28_0 : w25.cell? ⟨gb319, 0, none⟩ = some (.int .i64 0) := z10BC BK319 0; have hcz28_1 : w25.cell? ⟨gb319, 1, none⟩ = some (.slice none 0 0) := z10BC BK319 1; have hfz28_0 := blk_frozen BK319.out 0; have hfz28_1 := blk_frozen BK319.out 1; obtain ⟨Ao29, co29, eo29⟩ := Kd.R_slice HO318.out; subst eo29) | ((with_reducible refine gate_callee (f := 15) rfl ?_); refine goesL_ (some 29) rfl rfl Try.func15 (by kernel_rfl) rfl #[.agg #[.int .i64 t315, .slice Ao29 t316.length co29]] rfl z10AT ?_; (with_reducible refine (impl_HarderPuzzle.calls k t315 _ _ t316 t320 t321 t324 _ ?side1 ?side2 A10.out).mono ?_); (case side1 => refine (Kd.R_reads' (e := 55) (base := w.heap.size) (ok := fun k_ => ((True ∧ some k_ ≠ (.slice Ao17 t306.length co17 : Value).ownBlock) ∧ some k_ ≠ (.slice Ao22 t310.length co22 : Value).ownBlock)) (n := t316.length) (c := co29) ?_).2.2; exact (by (with_reducible repeat (first | apply Kd.R_alloc | apply Kd.R_drewN | apply Kd.R_drew)); exact (Kd.R_mono (Kd.R_far (p := ⟨gb319, 1, none⟩) (Kd.R_far (p := ⟨gb319, 0, none⟩) (Kd.R_types HO318.out BK319.out (by decide)) (fun _ hk => hk.2) (.int .i64 t315)) (fun _ hk => hk.2) (.slice Ao29 t316.length co29)) (fun _ h_ => h_.1)))); (case side2 => exact (Kd.R_reads' HO318.out).2.1); rintro e w30 ⟨v322, rfl, ho0, hb⟩; refine ⟨_, rfl, ?_⟩; have n0_ := Aside0.mk (Kd.R_elder' (by (with_reducible repeat (first | apply Kd.R_alloc | apply Kd.R_drewN | apply Kd.R_drew)); exact (Kd.R_mono (Kd.R_far (p := ⟨gb319, 1, none⟩) (Kd.R_far (p := ⟨gb319, 0, none⟩) (Kd.R_types HO308.out BK319.out (by decide)) (fun _ hk => hk.2) (.int .i64 t315)) (fun _ hk => hk.2) (.slice Ao29 t316.length co29)) (fun _ h_ => h_.1))) (Kd.R_base ho0) hb); have n1_ := Aside0.mk (Kd.R_elder' (by (with_reducible repeat (first | apply Kd.R_alloc | apply Kd.R_drewN | apply Kd.R_drew)); exact (Kd.R_mono (Kd.R_far (p := ⟨gb319, 1, none⟩) (Kd.R_far (p := ⟨gb319, 0, none⟩) (Kd.R_types HO312.out BK319.out (by decide)) (fun _ hk => hk.2) (.int .i64 t315)) (fun _ hk => hk.2) (.slice Ao29 t316.length co29)) (fun _ h_ => h_.1))) (Kd.R_base ho0) hb); have n2_ := Aside0.mk (Kd.R_elder' (by (with_reducible repeat (first | apply Kd.R_alloc | apply Kd.R_drewN | apply Kd.R_drew)); exact (Kd.R_mono (Kd.R_far (p := ⟨gb319, 1, none⟩) (Kd.R_far (p := ⟨gb319, 0, none⟩) (Kd.R_types HO318.out BK319.out (by decide)) (fun _ hk => hk.2) (.int .i64 t315)) (fun _ hk => hk.2) (.slice Ao29 t316.length co29)) (fun _ h_ => h_.1))) (Kd.R_base ho0) hb); have n3_ := Aside0.mk (Kd.R_lower (Kd.R_new' (Kd.R_new' (Kd.R_new' ho0 (Kd.R_lt (by (with_reducible repeat (first | apply Kd.R_alloc | apply Kd.R_drewN | apply Kd.R_drew)); exact (Kd.R_mono (Kd.R_far (p := ⟨gb319, 1, none⟩) (Kd.R_far (p := ⟨gb319, 0, none⟩) (Kd.R_types HO308.out BK319.out (by decide)) (fun _ hk => hk.2) (.int .i64 t315)) (fun _ hk => hk.2) (.slice Ao29 t316.length co29)) (fun _ h_ => h_.1))))) (Kd.R_lt (by (with_reducible repeat (first | apply Kd.R_alloc | apply Kd.R_drewN | apply Kd.R_drew)); exact (Kd.R_mono (Kd.R_far (p := ⟨gb319, 1, none⟩) (Kd.R_far (p := ⟨gb319, 0, none⟩) (Kd.R_types HO312.out BK319.out (by decide)) (fun _ hk => hk.2) (.int .i64 t315)) (fun _ hk => hk.2) (.slice Ao29 t316.length co29)) (fun _ h_ => h_.1))))) (Kd.R_lt (by (with_reducible repeat (first | apply Kd.R_alloc | apply Kd.R_drewN | apply Kd.R_drew)); exact (Kd.R_mono (Kd.R_far (p := ⟨gb319, 1, none⟩) (Kd.R_far (p := ⟨gb319, 0, none⟩) (Kd.R_types HO318.out BK319.out (by decide)) (fun _ hk => hk.2) (.int .i64 t315)) (fun _ hk => hk.2) (.slice Ao29 t316.length co29)) (fun _ h_ => h_.1))))) (below_size (z10HB HB))); have n4_ := z10BB BK303 hb; have n5_ := z10BB BK314 hb; have n6_ := Aside0.mk (blk_below (g := gb319) (o := .cells #[.int .i64 t315, .slice Ao29 t316.length co29] 31 (0, 0)) (by (with_reducible repeat (first | refine blk_drewN ?_ _ | refine blk_drew ?_ | refine blk_alloc ?_ _)); refine blk_put (cs := #[.int .i64 t315, .slice none 0 0]) ?_ 1 _ rfl; (with_reducible repeat (first | refine blk_drewN ?_ _ | refine blk_drew ?_ | refine blk_alloc ?_ _)); refine blk_put (cs := #[.int .i64 0, .slice none 0 0]) ?_ 0 _ rfl; exact (z10LB BK319)) hb); have n7_ := Aside0.mk (below_step (z10HB HB) hb); clear HO308; clear HO312; clear HO318; clear BK303; clear BK314; clear BK319; clear HB; have HO308 := n0_; have HO312 := n1_; have HO318 := n2_; have HO323 := n3_; have BK303 := n4_; have BK314 := n5_; have BK319 := n6_; have HB := n7_; clear n0_ n1_ n2_ n3_ n4_ n5_ n6_ n7_; (try clear hb); (try clear hb2); (try clear hk); (try clear hi); (try clear ho0)) | ((with_reducible refine gate_dst (N := 7) rfl ?_); refine box_event ?hg (N := 7) ?hd (cs := #[.int .i64 0, .slice none 0 0]) (t := 31) ?hr ?_; (case hd => rfl); (case hg => rfl); (case hr => first | (go_simp; done) | (go_simp; rfl)); intro gb325 hg w31 hbox hb; have n0_ := Aside0.mk (Kd.R_below (z10R HO308) hb); have n1_ := Aside0.mk (Kd.R_below (z10R HO312) hb); have n2_ := Aside0.mk (Kd.R_below (z10R HO318) hb); have n3_ := Aside0.mk (Kd.R_below (z10R HO323) hb); have n4_ := z10BB BK303 hb; have n5_ := z10BB BK314 hb; have n6_ := z10BB BK319 hb; have n7_ := Aside0.mk (below_step (z10HB HB) hb); have n8_ := Aside0.mk (hbox); have n9_ := Aside0.mk ((by rw [hg]; exact (below_size (z10HB HB)) : w.heap.size ≤ gb325)); have n10_ := Aside0.mk ((by rw [hg]; exact (below_size (z10HB HB)) : w.heap.size ≤ gb325)); have n11_ := Aside0.mk ((by rw [hg]; exact Nat.ne_of_lt ((z10LT BK303)) : gb303 ≠ gb325)); have n12_ := Aside0.mk ((by rw [hg]; exact Nat.ne_of_gt ((z10LT BK303)) : gb325 ≠ gb303)); have n13_ := Aside0.mk ((by rw [hg]; exact Nat.ne_of_lt ((z10LT BK314)) : gb314 ≠ gb325)); have n14_ := Aside0.mk ((by rw [hg]; exact Nat.ne_of_gt ((z10LT BK314)) : gb325 ≠ gb314)); have n15_ := Aside0.mk ((by rw [hg]; exact Nat.ne_of_lt ((z10LT BK319)) : gb319 ≠ gb325)); have n16_ := Aside0.mk ((by rw [hg]; exact Nat.ne_of_gt ((z10LT BK319)) : gb325 ≠ gb319)); clear HO308; clear HO312; clear HO318; clear HO323; clear BK303; clear BK314; clear BK319; clear HB; have HO308 := n0_; have HO312 := n1_; have HO318 := n2_; have HO323 := n3_; have BK303 := n4_; have BK314 := n5_; have BK319 := n6_; have HB := n7_; have BK325 := n8_; have GW325 := n9_; have GE325 := n10_; have NB303_325 := n11_; have NB325_303 := n12_; have NB314_325 := n13_; have NB325_314 := n14_; have NB319_325 := n15_; have NB325_319 := n16_; clear n0_ n1_ n2_ n3_ n4_ n5_ n6_ n7_ n8_ n9_ n10_ n11_ n12_ n13_ n14_ n15_ n16_; clear hb hbox hg; have hnb32 := NB325_303.out; have hnc32 := NB303_325.out; have hnb33 := NB325_314.out; have hnc33 := NB314_325.out; have hnb34 := NB325_319.out; have hnc34 := NB319_325.out; have hcz35_0 : w31.cell? ⟨gb325, 0, none⟩ = some (.int .i64 0) := z10BC BK325 0; have hcz35_1 : w31.cell? ⟨gb325, 1, none⟩ = some (.slice none 0 0) := z10BC BK325 1; have hfz35_0 := blk_frozen BK325.out 0; have hfz35_1 := blk_frozen BK325.out 1; obtain ⟨Ao36, co36, eo36⟩ := Kd.R_slice HO323.out; subst eo36))
  (try simp only [Act.put, List.setIfInBounds_toArray, List.set_cons_zero, List.set_cons_succ])
  go_cut [40] (fun v40 wc => ∃ (kq : Nat) (x40_10 : Bool), v40 = .bool x40_10 ∧ Aside0 (laws_FnExactHarderPuzzle.j0 kq t313 t324 x40_10 a0_0 l0_1 t309 t310 t315 t316 t320 t321 = some r) ∧ Aside0 (kq ≤ k) ∧ Aside0 (Kd.R k55 55 wc w.heap.size (fun k_ => some k_ ≠ ((.slice Ao29 t316.length co29) : Value).ownBlock ∧ some k_ ≠ ((.slice Ao36 t321.length co36) : Value).ownBlock) (.slice Ao22 t310.length co22) t310) ∧ Aside0 (Kd.R k55 55 wc w.heap.size (fun k_ => some k_ ≠ ((.slice Ao22 t310.length co22) : Value).ownBlock ∧ some k_ ≠ ((.slice Ao36 t321.length co36) : Value).ownBlock) (.slice Ao29 t316.length co29) t316) ∧ Aside0 (Kd.R k55 55 wc w.heap.size (fun k_ => some k_ ≠ ((.slice Ao22 t310.length co22) : Value).ownBlock ∧ some k_ ≠ ((.slice Ao29 t316.length co29) : Value).ownBlock) (.slice Ao36 t321.length co36) t321) ∧ Aside0 (wc.heap[gb303]? = some (.cells #[.int .i64 a0_0, (.slice A0_1 l0_1.length c0_1)] 24 (0, 0))) ∧ Aside0 (wc.heap[gb314]? = some (.cells #[.int .i64 t309, (.slice Ao22 t310.length co22)] 31 (0, 0))) ∧ Aside0 (wc.heap[gb319]? = some (.cells #[.int .i64 t315, (.slice Ao29 t316.length co29)] 31 (0, 0))) ∧ Aside0 (wc.heap[gb325]? = some (.cells #[.int .i64 t320, (.slice Ao36 t321.length co36)] 31 (0, 0))) ∧ Aside0 (Below w.heap.size w wc))
  case first =>
   have H := HC11.out
   clear HC11
   replace H := Option.bind_eq_some_iff.mp H
   obtain ⟨t326, A370, H⟩ := H
   replace H : (if t326 = true then (laws_FnExactHarderPuzzle.j0 k t313 t324 (t324 != t313) a0_0 l0_1 t309 t310 t315 t316 t320 t321) else (laws_FnExactHarderPuzzle.j0 k t313 t324 true a0_0 l0_1 t309 t310 t315 t316 t320 t321)) = some r := H
   have A37 := Aside0.mk A370
   clear A370
   by_cases c38 : t326 = true
   ·subst c38
    have H1 : (laws_FnExactHarderPuzzle.j0 k t313 t324 (t324 != t313) a0_0 l0_1 t309 t310 t315 t316 t320 t321) = some r := by rw [if_pos rfl] at H; exact H
    clear H
    have H := H1
    clear H1
    have H' := Aside0.mk H
    clear H
    have hnb39 := NB325_303.out
    have hnc39 := NB303_325.out
    have hnb40 := NB325_314.out
    have hnc40 := NB314_325.out
    have hnb41 := NB325_319.out
    have hnc41 := NB319_325.out
    have hcz42_0 : w31.cell? ⟨gb325, 0, none⟩ = some (.int .i64 0) := z10BC BK325 0
    have hcz42_1 : w31.cell? ⟨gb325, 1, none⟩ = some (.slice none 0 0) := z10BC BK325 1
    have hfz42_0 := blk_frozen BK325.out 0
    have hfz42_1 := blk_frozen BK325.out 1
    have hnb43 := NB314_303.out
    have hnc43 := NB303_314.out
    have hnb44 := NB314_319.out
    have hnc44 := NB319_314.out
    have hcz45_0 : w31.cell? ⟨gb314, 0, none⟩ = some (.int .i64 t309) := z10BC BK314 0
    have hcz45_1 : w31.cell? ⟨gb314, 1, none⟩ = some (.slice Ao22 t310.length co22) := z10BC BK314 1
    have hfz45_0 := blk_frozen BK314.out 0
    have hfz45_1 := blk_frozen BK314.out 1
    go_wp2_with (first | ((with_reducible refine gate_callee (f := 10) rfl ?_); refine goesL_ (some 34) rfl rfl Try.func10 (by kernel_rfl) rfl #[.agg #[.int .i64 t320, .slice Ao36 t321.length co36], .agg #[.int .i64 t309, .slice Ao22 t310.length co22]] rfl z10AT ?_; (with_reducible refine (laws_eqPuzzle.calls k t320 _ _ t321 t309 _ _ t310 true _ ?side1 ?side2 ?side3 ?side4 A37.out).mono ?_); (case side1 => refine (Kd.R_reads' (e := 55) (base := w.heap.size) (ok := fun k_ => (((True ∧ some k_ ≠ (.slice Ao17 t306.length co17 : Value).ownBlock) ∧ some k_ ≠ (.slice Ao22 t310.length co22 : Value).ownBlock) ∧ some k_ ≠ (.slice Ao29 t316.length co29 : Value).ownBlock)) (n := t321.length) (c := co36) ?_).2.2; exact (by (with_reducible repeat (first | apply Kd.R_alloc | apply Kd.R_drewN | apply Kd.R_drew)); exact (Kd.R_mono (Kd.R_far (p := ⟨gb325, 1, none⟩) (Kd.R_far (p := ⟨gb325, 0, none⟩) (Kd.R_types HO323.out BK325.out (by decide)) (fun _ hk => hk.2) (.int .i64 t320)) (fun _ hk => hk.2) (.slice Ao36 t321.length co36)) (fun _ h_ => h_.1)))); (case side2 => exact (Kd.R_reads' HO323.out).2.1); (case side3 => refine (Kd.R_reads' (e := 55) (base := w.heap.size) (ok := fun k_ => (((True ∧ some k_ ≠ (.slice Ao17 t306.length co17 : Value).ownBlock) ∧ some k_ ≠ (.slice Ao29 t316.length co29 : Value).ownBlock) ∧ some k_ ≠ (.slice Ao36 t321.length co36 : Value).ownBlock)) (n := t310.length) (c := co22) ?_).2.2; exact (by (with_reducible repeat (first | apply Kd.R_alloc | apply Kd.R_drewN | apply Kd.R_drew)); exact (Kd.R_mono (Kd.R_far (p := ⟨gb325, 1, none⟩) (Kd.R_far (p := ⟨gb325, 0, none⟩) (Kd.R_types HO312.out BK325.out (by decide)) (fun _ hk => hk.2) (.int .i64 t320)) (fun _ hk => hk.2) (.slice Ao36 t321.length co36)) (fun _ h_ => h_.1)))); (case side4 => exact (Kd.R_reads' HO312.out).2.1); rintro e w46 ⟨rfl, hb⟩; refine ⟨_, rfl, ?_⟩; have n0_ := Aside0.mk (Kd.R_below (by (with_reducible repeat (first | apply Kd.R_alloc | apply Kd.R_drewN | apply Kd.R_drew)); exact (Kd.R_mono (Kd.R_far (p := ⟨gb325, 1, none⟩) (Kd.R_far (p := ⟨gb325, 0, none⟩) (Kd.R_types HO308.out BK325.out (by decide)) (fun _ hk => hk.2) (.int .i64 t320)) (fun _ hk => hk.2) (.slice Ao36 t321.length co36)) (fun _ h_ => h_.1))) hb); have n1_ := Aside0.mk (Kd.R_below (by (with_reducible repeat (first | apply Kd.R_alloc | apply Kd.R_drewN | apply Kd.R_drew)); exact (Kd.R_mono (Kd.R_far (p := ⟨gb325, 1, none⟩) (Kd.R_far (p := ⟨gb325, 0, none⟩) (Kd.R_types HO312.out BK325.out (by decide)) (fun _ hk => hk.2) (.int .i64 t320)) (fun _ hk => hk.2) (.slice Ao36 t321.length co36)) (fun _ h_ => h_.1))) hb); have n2_ := Aside0.mk (Kd.R_below (by (with_reducible repeat (first | apply Kd.R_alloc | apply Kd.R_drewN | apply Kd.R_drew)); exact (Kd.R_mono (Kd.R_far (p := ⟨gb325, 1, none⟩) (Kd.R_far (p := ⟨gb325, 0, none⟩) (Kd.R_types HO318.out BK325.out (by decide)) (fun _ hk => hk.2) (.int .i64 t320)) (fun _ hk => hk.2) (.slice Ao36 t321.length co36)) (fun _ h_ => h_.1))) hb); have n3_ := Aside0.mk (Kd.R_below (by (with_reducible repeat (first | apply Kd.R_alloc | apply Kd.R_drewN | apply Kd.R_drew)); exact (Kd.R_mono (Kd.R_far (p := ⟨gb325, 1, none⟩) (Kd.R_far (p := ⟨gb325, 0, none⟩) (Kd.R_types HO323.out BK325.out (by decide)) (fun _ hk => hk.2) (.int .i64 t320)) (fun _ hk => hk.2) (.slice Ao36 t321.length co36)) (fun _ h_ => h_.1))) hb); have n4_ := z10BB BK303 hb; have n5_ := z10BB BK314 hb; have n6_ := z10BB BK319 hb; have n7_ := Aside0.mk (blk_below (g := gb325) (o := .cells #[.int .i64 t320, .slice Ao36 t321.length co36] 31 (0, 0)) (by (with_reducible repeat (first | refine blk_drewN ?_ _ | refine blk_drew ?_ | refine blk_alloc ?_ _)); refine blk_put (cs := #[.int .i64 t320, .slice none 0 0]) ?_ 1 _ rfl; (with_reducible repeat (first | refine blk_drewN ?_ _ | refine blk_drew ?_ | refine blk_alloc ?_ _)); refine blk_put (cs := #[.int .i64 0, .slice none 0 0]) ?_ 0 _ rfl; exact (z10LB BK325)) hb); have n8_ := Aside0.mk (below_step (z10HB HB) hb); clear HO308; clear HO312; clear HO318; clear HO323; clear BK303; clear BK314; clear BK319; clear BK325; clear HB; have HO308 := n0_; have HO312 := n1_; have HO318 := n2_; have HO323 := n3_; have BK303 := n4_; have BK314 := n5_; have BK319 := n6_; have BK325 := n7_; have HB := n8_; clear n0_ n1_ n2_ n3_ n4_ n5_ n6_ n7_ n8_; (try clear hb); (try clear hb2); (try clear hk); (try clear hi)))
    go_meet
    case rel => exact ⟨_, ((t324 != t313)), (by first | rfl | (simp; done) | (simp [*]; done)), H', ⟨by first | omega | exact Nat.le_refl _⟩, ⟨by (with_reducible repeat (first | apply Kd.R_alloc | apply Kd.R_drewN | apply Kd.R_drew)); exact Kd.R_mono HO312.out (fun _ hk => ⟨hk.1.2, hk.2⟩)⟩, ⟨by (with_reducible repeat (first | apply Kd.R_alloc | apply Kd.R_drewN | apply Kd.R_drew)); exact Kd.R_mono HO318.out (fun _ hk => ⟨hk.1.2, hk.2⟩)⟩, ⟨by (with_reducible repeat (first | apply Kd.R_alloc | apply Kd.R_drewN | apply Kd.R_drew)); exact Kd.R_mono HO323.out (fun _ hk => ⟨hk.1.2, hk.2⟩)⟩, ⟨(z10LB BK303)⟩, ⟨(z10LB BK314)⟩, ⟨(z10LB BK319)⟩, ⟨(z10LB BK325)⟩, ⟨by exact (z10HB HB)⟩⟩
   ·replace c38 := Bool.eq_false_iff.mpr c38
    subst c38
    have H1 : (laws_FnExactHarderPuzzle.j0 k t313 t324 true a0_0 l0_1 t309 t310 t315 t316 t320 t321) = some r := by rw [if_neg (show ¬ (false = true) by decide)] at H; exact H
    clear H
    have H := H1
    clear H1
    have H' := Aside0.mk H
    clear H
    have hnb47 := NB325_303.out
    have hnc47 := NB303_325.out
    have hnb48 := NB325_314.out
    have hnc48 := NB314_325.out
    have hnb49 := NB325_319.out
    have hnc49 := NB319_325.out
    have hcz50_0 : w31.cell? ⟨gb325, 0, none⟩ = some (.int .i64 0) := z10BC BK325 0
    have hcz50_1 : w31.cell? ⟨gb325, 1, none⟩ = some (.slice none 0 0) := z10BC BK325 1
    have hfz50_0 := blk_frozen BK325.out 0
    have hfz50_1 := blk_frozen BK325.out 1
    have hnb51 := NB314_303.out
    have hnc51 := NB303_314.out
    have hnb52 := NB314_319.out
    have hnc52 := NB319_314.out
    have hcz53_0 : w31.cell? ⟨gb314, 0, none⟩ = some (.int .i64 t309) := z10BC BK314 0
    have hcz53_1 : w31.cell? ⟨gb314, 1, none⟩ = some (.slice Ao22 t310.length co22) := z10BC BK314 1
    have hfz53_0 := blk_frozen BK314.out 0
    have hfz53_1 := blk_frozen BK314.out 1
    go_wp2_with (first | ((with_reducible refine gate_callee (f := 10) rfl ?_); refine goesL_ (some 34) rfl rfl Try.func10 (by kernel_rfl) rfl #[.agg #[.int .i64 t320, .slice Ao36 t321.length co36], .agg #[.int .i64 t309, .slice Ao22 t310.length co22]] rfl z10AT ?_; (with_reducible refine (laws_eqPuzzle.calls k t320 _ _ t321 t309 _ _ t310 false _ ?side1 ?side2 ?side3 ?side4 A37.out).mono ?_); (case side1 => refine (Kd.R_reads' (e := 55) (base := w.heap.size) (ok := fun k_ => (((True ∧ some k_ ≠ (.slice Ao17 t306.length co17 : Value).ownBlock) ∧ some k_ ≠ (.slice Ao22 t310.length co22 : Value).ownBlock) ∧ some k_ ≠ (.slice Ao29 t316.length co29 : Value).ownBlock)) (n := t321.length) (c := co36) ?_).2.2; exact (by (with_reducible repeat (first | apply Kd.R_alloc | apply Kd.R_drewN | apply Kd.R_drew)); exact (Kd.R_mono (Kd.R_far (p := ⟨gb325, 1, none⟩) (Kd.R_far (p := ⟨gb325, 0, none⟩) (Kd.R_types HO323.out BK325.out (by decide)) (fun _ hk => hk.2) (.int .i64 t320)) (fun _ hk => hk.2) (.slice Ao36 t321.length co36)) (fun _ h_ => h_.1)))); (case side2 => exact (Kd.R_reads' HO323.out).2.1); (case side3 => refine (Kd.R_reads' (e := 55) (base := w.heap.size) (ok := fun k_ => (((True ∧ some k_ ≠ (.slice Ao17 t306.length co17 : Value).ownBlock) ∧ some k_ ≠ (.slice Ao29 t316.length co29 : Value).ownBlock) ∧ some k_ ≠ (.slice Ao36 t321.length co36 : Value).ownBlock)) (n := t310.length) (c := co22) ?_).2.2; exact (by (with_reducible repeat (first | apply Kd.R_alloc | apply Kd.R_drewN | apply Kd.R_drew)); exact (Kd.R_mono (Kd.R_far (p := ⟨gb325, 1, none⟩) (Kd.R_far (p := ⟨gb325, 0, none⟩) (Kd.R_types HO312.out BK325.out (by decide)) (fun _ hk => hk.2) (.int .i64 t320)) (fun _ hk => hk.2) (.slice Ao36 t321.length co36)) (fun _ h_ => h_.1)))); (case side4 => exact (Kd.R_reads' HO312.out).2.1); rintro e w54 ⟨rfl, hb⟩; refine ⟨_, rfl, ?_⟩; have n0_ := Aside0.mk (Kd.R_below (by (with_reducible repeat (first | apply Kd.R_alloc | apply Kd.R_drewN | apply Kd.R_drew)); exact (Kd.R_mono (Kd.R_far (p := ⟨gb325, 1, none⟩) (Kd.R_far (p := ⟨gb325, 0, none⟩) (Kd.R_types HO308.out BK325.out (by decide)) (fun _ hk => hk.2) (.int .i64 t320)) (fun _ hk => hk.2) (.slice Ao36 t321.length co36)) (fun _ h_ => h_.1))) hb); have n1_ := Aside0.mk (Kd.R_below (by (with_reducible repeat (first | apply Kd.R_alloc | apply Kd.R_drewN | apply Kd.R_drew)); exact (Kd.R_mono (Kd.R_far (p := ⟨gb325, 1, none⟩) (Kd.R_far (p := ⟨gb325, 0, none⟩) (Kd.R_types HO312.out BK325.out (by decide)) (fun _ hk => hk.2) (.int .i64 t320)) (fun _ hk => hk.2) (.slice Ao36 t321.length co36)) (fun _ h_ => h_.1))) hb); have n2_ := Aside0.mk (Kd.R_below (by (with_reducible repeat (first | apply Kd.R_alloc | apply Kd.R_drewN | apply Kd.R_drew)); exact (Kd.R_mono (Kd.R_far (p := ⟨gb325, 1, none⟩) (Kd.R_far (p := ⟨gb325, 0, none⟩) (Kd.R_types HO318.out BK325.out (by decide)) (fun _ hk => hk.2) (.int .i64 t320)) (fun _ hk => hk.2) (.slice Ao36 t321.length co36)) (fun _ h_ => h_.1))) hb); have n3_ := Aside0.mk (Kd.R_below (by (with_reducible repeat (first | apply Kd.R_alloc | apply Kd.R_drewN | apply Kd.R_drew)); exact (Kd.R_mono (Kd.R_far (p := ⟨gb325, 1, none⟩) (Kd.R_far (p := ⟨gb325, 0, none⟩) (Kd.R_types HO323.out BK325.out (by decide)) (fun _ hk => hk.2) (.int .i64 t320)) (fun _ hk => hk.2) (.slice Ao36 t321.length co36)) (fun _ h_ => h_.1))) hb); have n4_ := z10BB BK303 hb; have n5_ := z10BB BK314 hb; have n6_ := z10BB BK319 hb; have n7_ := Aside0.mk (blk_below (g := gb325) (o := .cells #[.int .i64 t320, .slice Ao36 t321.length co36] 31 (0, 0)) (by (with_reducible repeat (first | refine blk_drewN ?_ _ | refine blk_drew ?_ | refine blk_alloc ?_ _)); refine blk_put (cs := #[.int .i64 t320, .slice none 0 0]) ?_ 1 _ rfl; (with_reducible repeat (first | refine blk_drewN ?_ _ | refine blk_drew ?_ | refine blk_alloc ?_ _)); refine blk_put (cs := #[.int .i64 0, .slice none 0 0]) ?_ 0 _ rfl; exact (z10LB BK325)) hb); have n8_ := Aside0.mk (below_step (z10HB HB) hb); clear HO308; clear HO312; clear HO318; clear HO323; clear BK303; clear BK314; clear BK319; clear BK325; clear HB; have HO308 := n0_; have HO312 := n1_; have HO318 := n2_; have HO323 := n3_; have BK303 := n4_; have BK314 := n5_; have BK319 := n6_; have BK325 := n7_; have HB := n8_; clear n0_ n1_ n2_ n3_ n4_ n5_ n6_ n7_ n8_; (try clear hb); (try clear hb2); (try clear hk); (try clear hi)))
    go_meet
    case rel => exact ⟨_, (true), (by first | rfl | (simp; done) | (simp [*]; done)), H', ⟨by first | omega | exact Nat.le_refl _⟩, ⟨by (with_reducible repeat (first | apply Kd.R_alloc | apply Kd.R_drewN | apply Kd.R_drew)); exact Kd.R_mono HO312.out (fun _ hk => ⟨hk.1.2, hk.2⟩)⟩, ⟨by (with_reducible repeat (first | apply Kd.R_alloc | apply Kd.R_drewN | apply Kd.R_drew)); exact Kd.R_mono HO318.out (fun _ hk => ⟨hk.1.2, hk.2⟩)⟩, ⟨by (with_reducible repeat (first | apply Kd.R_alloc | apply Kd.R_drewN | apply Kd.R_drew)); exact Kd.R_mono HO323.out (fun _ hk => ⟨hk.1.2, hk.2⟩)⟩, ⟨(z10LB BK303)⟩, ⟨(z10LB BK314)⟩, ⟨(z10LB BK319)⟩, ⟨(z10LB BK325)⟩, ⟨by exact (z10HB HB)⟩⟩
  case rest =>
   clear HC11
   try clear c1
   try clear c2
   try clear p2
   try clear c3
   try clear c3b0
   try clear c4
   try clear c5
   try clear c7
   try clear c10
   try clear c14
   try clear c15
   try clear c20
   try clear c26
   try clear c27
   try clear c32
   try clear c33
   try clear c34
   try clear c38
   try clear c39
   try clear c40
   try clear c41
   try clear c43
   try clear c44
   try clear c47
   try clear c48
   try clear c49
   try clear c51
   try clear c52
   try clear hcz13_0
   try clear hcz13_1
   try clear hcz15_0
   try clear hcz15_1
   try clear hcz21_0
   try clear hcz21_1
   try clear hcz23_0
   try clear hcz23_1
   try clear hcz28_0
   try clear hcz28_1
   try clear hcz35_0
   try clear hcz35_1
   try clear hcz42_0
   try clear hcz42_1
   try clear hcz45_0
   try clear hcz45_1
   try clear hcz50_0
   try clear hcz50_1
   try clear hcz53_0
   try clear hcz53_1
   try clear hcz5_0
   try clear hcz5_1
   try clear hfz13_0
   try clear hfz13_1
   try clear hfz15_0
   try clear hfz15_1
   try clear hfz21_0
   try clear hfz21_1
   try clear hfz23_0
   try clear hfz23_1
   try clear hfz28_0
   try clear hfz28_1
   try clear hfz35_0
   try clear hfz35_1
   try clear hfz42_0
   try clear hfz42_1
   try clear hfz45_0
   try clear hfz45_1
   try clear hfz50_0
   try clear hfz50_1
   try clear hfz53_0
   try clear hfz53_1
   try clear hfz5_0
   try clear hfz5_1
   obtain ⟨kq, x40_10, rfl, HA, HJ10, HO_315001, HO_320001, HO_326001, BK303, BK314, BK319, BK325, HB⟩ := hcut
   cases kq with
   | zero => exact absurd HA.out (by simp [laws_FnExactHarderPuzzle.j0])
   | succ kj10 =>
    have H := HA.out
    clear HA
    simp only [laws_FnExactHarderPuzzle.j0] at H
    by_cases c55 : x40_10 = true
    ·subst c55
     have H1 : (some false) = some r := by rw [if_pos rfl] at H; exact H
     clear H
     have H := H1
     clear H1
     obtain rfl := Option.some.inj H
     go_wp2
     go_ret
     exact ⟨by first | rfl | (simp [errW_none, errW_some] <;> rfl) | (simp [*, errW_none, errW_some] <;> rfl), by exact (z10HB HB)⟩
    ·replace c55 := Bool.eq_false_iff.mpr c55
     subst c55
     have H1 : ((laws_toPuzzle.f kj10 a0_0 l0_1).bind fun bt327 => ((laws_eqPuzzle.f kj10 t315 t316 bt327.1 bt327.2).bind fun t331 => (if t331 = true then ((laws_markPuzzle.f kj10 t315 t316 1).bind fun bt332 => (if bt332.1 < 0 then (laws_FnExactHarderPuzzle.j1 kj10 t313 true a0_0 l0_1 t309 t310 t320 t321) else ((laws_eqPuzzle.f kj10 t320 t321 t309 t310).bind fun t334 => (if t334 = true then (laws_FnExactHarderPuzzle.j1 kj10 t313 (t324 != t313) a0_0 l0_1 t309 t310 t320 t321) else (laws_FnExactHarderPuzzle.j1 kj10 t313 true a0_0 l0_1 t309 t310 t320 t321))))) else (some false)))) = some r := by rw [if_neg (show ¬ (false = true) by decide)] at H; exact H
     clear H
     have H := H1
     clear H1
     replace H := Option.bind_eq_some_iff.mp H
     obtain ⟨⟨t327, t328⟩, A560, H⟩ := H
     replace H : ((laws_eqPuzzle.f kj10 t315 t316 t327 t328).bind fun t331 => (if t331 = true then ((laws_markPuzzle.f kj10 t315 t316 1).bind fun bt332 => (if bt332.1 < 0 then (laws_FnExactHarderPuzzle.j1 kj10 t313 true a0_0 l0_1 t309 t310 t320 t321) else ((laws_eqPuzzle.f kj10 t320 t321 t309 t310).bind fun t334 => (if t334 = true then (laws_FnExactHarderPuzzle.j1 kj10 t313 (t324 != t313) a0_0 l0_1 t309 t310 t320 t321) else (laws_FnExactHarderPuzzle.j1 kj10 t313 true a0_0 l0_1 t309 t310 t320 t321))))) else (some false))) = some r := H
     have A56 := Aside0.mk A560
     clear A560
     replace H := Option.bind_eq_some_iff.mp H
     obtain ⟨t331, A570, H⟩ := H
     replace H : (if t331 = true then ((laws_markPuzzle.f kj10 t315 t316 1).bind fun bt332 => (if bt332.1 < 0 then (laws_FnExactHarderPuzzle.j1 kj10 t313 true a0_0 l0_1 t309 t310 t320 t321) else ((laws_eqPuzzle.f kj10 t320 t321 t309 t310).bind fun t334 => (if t334 = true then (laws_FnExactHarderPuzzle.j1 kj10 t313 (t324 != t313) a0_0 l0_1 t309 t310 t320 t321) else (laws_FnExactHarderPuzzle.j1 kj10 t313 true a0_0 l0_1 t309 t310 t320 t321))))) else (some false)) = some r := H
     have A57 := Aside0.mk A570
     clear A570
     by_cases c58 : t331 = true
     ·subst c58
      have H1 : ((laws_markPuzzle.f kj10 t315 t316 1).bind fun bt332 => (if bt332.1 < 0 then (laws_FnExactHarderPuzzle.j1 kj10 t313 true a0_0 l0_1 t309 t310 t320 t321) else ((laws_eqPuzzle.f kj10 t320 t321 t309 t310).bind fun t334 => (if t334 = true then (laws_FnExactHarderPuzzle.j1 kj10 t313 (t324 != t313) a0_0 l0_1 t309 t310 t320 t321) else (laws_FnExactHarderPuzzle.j1 kj10 t313 true a0_0 l0_1 t309 t310 t320 t321))))) = some r := by rw [if_pos rfl] at H; exact H
      clear H
      have H := H1
      clear H1
      replace H := Option.bind_eq_some_iff.mp H
      obtain ⟨⟨t332, t333⟩, A590, H⟩ := H
      replace H : (if t332 < 0 then (laws_FnExactHarderPuzzle.j1 kj10 t313 true a0_0 l0_1 t309 t310 t320 t321) else ((laws_eqPuzzle.f kj10 t320 t321 t309 t310).bind fun t334 => (if t334 = true then (laws_FnExactHarderPuzzle.j1 kj10 t313 (t324 != t313) a0_0 l0_1 t309 t310 t320 t321) else (laws_FnExactHarderPuzzle.j1 kj10 t313 true a0_0 l0_1 t309 t310 t320 t321)))) = some r := H
      have A59 := Aside0.mk A590
      clear A590
      have HC60 := Aside0.mk H
      clear H
      try go_wp2
      have n0_ := Aside0.mk (Kd.R_drew HO_315001.out)
      have n1_ := Aside0.mk (Kd.R_drew HO_320001.out)
      have n2_ := Aside0.mk (Kd.R_drew HO_326001.out)
      have n3_ := Aside0.mk (blk_drew BK303.out)
      have n4_ := Aside0.mk (blk_drew BK314.out)
      have n5_ := Aside0.mk (blk_drew BK319.out)
      have n6_ := Aside0.mk (blk_drew BK325.out)
      have n7_ := Aside0.mk (below_drew1 HB.out)
      clear HO_315001 HO_320001 HO_326001 BK303 BK314 BK319 BK325 HB
      have HO_315001 := n0_
      have HO_320001 := n1_
      have HO_326001 := n2_
      have BK303 := n3_
      have BK314 := n4_
      have BK319 := n5_
      have BK325 := n6_
      have HB := n7_
      clear n0_ n1_ n2_ n3_ n4_ n5_ n6_ n7_
      refine start_ (n := 5) (S := fun w' => w'.cell? ⟨gb319, 0, none⟩ = some (.int .i64 t315) ∧ w'.cell? ⟨gb319, 1, none⟩ = some (.slice Ao29 t316.length co29) ∧ w'.cell? ⟨gb303, 0, none⟩ = some (.int .i64 a0_0) ∧ w'.cell? ⟨gb303, 1, none⟩ = some (.slice A0_1 l0_1.length c0_1)) (ds := []) #[false, false, false, false, false] (by kernel_rfl) rfl rfl ⟨z10BC BK319 0, z10BC BK319 1, z10BC BK303 0, z10BC BK303 1⟩ (fun hHeld => ?_)
      generalize wc.drew = w61 at HO_315001 HO_320001 HO_326001 BK303 BK314 BK319 BK325 HB hHeld ⊢
      refine take_ (i := 0) (N := some 41) (v := ?_) (a' := ?_) #[true, false, false, false, false] rfl rfl (by kernel_rfl) (fun _ _ _ h => h) (Or.inl ⟨by rfl, ?_⟩) hHeld ?_ ?_
      rotate_left
      ·rintro w' ⟨s0, s1, s2, s3⟩
       go_simp
       with_reducible rfl
      rotate_left
      ·simp only [Act.put, List.setIfInBounds_toArray, List.set_cons_zero, List.set_cons_succ, i64_w, i32_w]
       rfl
      refine take_ (i := 1) (N := some 42) (v := ?_) (a' := ?_) #[true, true, false, false, false] rfl rfl (by kernel_rfl) (fun _ _ _ h => h) (Or.inl ⟨by rfl, ?_⟩) hHeld ?_ ?_
      rotate_left
      ·rintro w' ⟨s0, s1, s2, s3⟩
       go_simp
       with_reducible rfl
      rotate_left
      ·simp only [Act.put, List.setIfInBounds_toArray, List.set_cons_zero, List.set_cons_succ, i64_w, i32_w]
       rfl
      refine one_ (i := 2) (N := some 43) #[true, true, true, false, false] rfl rfl (by kernel_rfl) (by decide) (fun K hK => ?_)
      refine goes_ Try.func7 (by kernel_rfl) rfl #[.agg #[.int .i64 a0_0, .slice A0_1 l0_1.length c0_1]] (by rfl) rfl rfl z10AT ?_
      with_reducible refine (laws_toPuzzle.calls kj10 a0_0 _ _ l0_1 t327 t328 _ ?side1 ?side2 A56.out).mono ?_
      (case side1 => repeat (first | exact (Kd.C_below HR0_1.out HB.out) | (with_reducible refine Kd.C_alloc ?_ _) | (with_reducible refine Kd.C_drewN ?_ _) | (with_reducible refine Kd.C_drew ?_)))
      (case side2 => exact HC0_1.out)
      rintro e w62 ⟨v329, rfl, ho0, hb⟩
      refine ⟨_, rfl, ?_⟩
      have n0_ := Aside0.mk (Kd.R_elder' (z10R HO_315001) (Kd.R_base ho0) hb)
      have n1_ := Aside0.mk (Kd.R_elder' (z10R HO_320001) (Kd.R_base ho0) hb)
      have n2_ := Aside0.mk (Kd.R_elder' (z10R HO_326001) (Kd.R_base ho0) hb)
      have n3_ := Aside0.mk (Kd.R_lower (Kd.R_new' (Kd.R_new' (Kd.R_new' ho0 (Kd.R_lt (z10R HO_315001))) (Kd.R_lt (z10R HO_320001))) (Kd.R_lt (z10R HO_326001))) (below_size (z10HB HB)))
      have n4_ := z10BB BK303 hb
      have n5_ := z10BB BK314 hb
      have n6_ := z10BB BK319 hb
      have n7_ := z10BB BK325 hb
      have n8_ := Aside0.mk (below_step (z10HB HB) hb)
      clear HO_315001 HO_320001 HO_326001 BK303 BK314 BK319 BK325 HB
      have HO_315001 := n0_
      have HO_320001 := n1_
      have HO_326001 := n2_
      have HO330 := n3_
      have BK303 := n4_
      have BK314 := n5_
      have BK319 := n6_
      have BK325 := n7_
      have HB := n8_
      clear n0_ n1_ n2_ n3_ n4_ n5_ n6_ n7_ n8_
      (try clear hb)
      (try clear hb2)
      (try clear hk)
      (try clear hi)
      (try clear ho0)
      obtain ⟨Ao63, co63, eo63⟩ := Kd.R_slice HO330.out
      (first | subst eo63 | (injection eo63 with f1_ f2_ f3_; have f4_ := f1_.symm; have f5_ := f3_.symm; clear f1_ f2_ f3_; subst f4_; subst f5_))
      refine hK.out _ _ ⟨z10BC BK319 0, z10BC BK319 1, z10BC BK303 0, z10BC BK303 1⟩ (fun hHeld => ?_)
      clear hK K
      refine norm_ (a' := ?_) ?_ ?_
      rotate_left
      ·show Act.put _ (some 43) _ = _
       simp only [Act.put, List.setIfInBounds_toArray, List.set_cons_zero, List.set_cons_succ, i64_w, i32_w]
       rfl
      refine one_ (i := 3) (N := some 44) #[true, true, true, true, false] rfl rfl (by kernel_rfl) (by decide) (fun K hK => ?_)
      refine goes_ Try.func10 (by kernel_rfl) rfl #[.agg #[.int .i64 t315, .slice Ao29 t316.length co29], .agg #[.int .i64 t327, .slice Ao63 t328.length co63]] (by rfl) rfl rfl z10AT ?_
      with_reducible refine (laws_eqPuzzle.calls kj10 t315 _ _ t316 t327 _ _ t328 true _ ?side1 ?side2 ?side3 ?side4 A57.out).mono ?_
      (case side1 => repeat (first | exact (Kd.R_reads' HO_320001.out).2.2 | (with_reducible refine Kd.C_alloc ?_ _) | (with_reducible refine Kd.C_drewN ?_ _) | (with_reducible refine Kd.C_drew ?_)))
      (case side2 => exact (Kd.R_reads' HO_320001.out).2.1)
      (case side3 => repeat (first | exact (Kd.R_reads' HO330.out).2.2 | (with_reducible refine Kd.C_alloc ?_ _) | (with_reducible refine Kd.C_drewN ?_ _) | (with_reducible refine Kd.C_drew ?_)))
      (case side4 => exact (Kd.R_reads' HO330.out).2.1)
      rintro e w64 ⟨rfl, hb⟩
      refine ⟨_, rfl, ?_⟩
      have n0_ := Aside0.mk (Kd.R_below (z10R HO_315001) hb)
      have n1_ := Aside0.mk (Kd.R_below (z10R HO_320001) hb)
      have n2_ := Aside0.mk (Kd.R_below (z10R HO_326001) hb)
      have n3_ := Aside0.mk (Kd.R_below (z10R HO330) hb)
      have n4_ := z10BB BK303 hb
      have n5_ := z10BB BK314 hb
      have n6_ := z10BB BK319 hb
      have n7_ := z10BB BK325 hb
      have n8_ := Aside0.mk (below_step (z10HB HB) hb)
      clear HO_315001 HO_320001 HO_326001 HO330 BK303 BK314 BK319 BK325 HB
      have HO_315001 := n0_
      have HO_320001 := n1_
      have HO_326001 := n2_
      have HO330 := n3_
      have BK303 := n4_
      have BK314 := n5_
      have BK319 := n6_
      have BK325 := n7_
      have HB := n8_
      clear n0_ n1_ n2_ n3_ n4_ n5_ n6_ n7_ n8_
      (try clear hb)
      (try clear hb2)
      (try clear hk)
      (try clear hi)
      refine hK.out _ _ ⟨z10BC BK319 0, z10BC BK319 1, z10BC BK303 0, z10BC BK303 1⟩ (fun hHeld => ?_)
      clear hK K
      refine norm_ (a' := ?_) ?_ ?_
      rotate_left
      ·show Act.put _ (some 44) _ = _
       simp only [Act.put, List.setIfInBounds_toArray, List.set_cons_zero, List.set_cons_succ, i64_w, i32_w]
       rfl
      refine pure_ (i := 4) (N := some 45) (v := ?_) (a' := ?_) #[true, true, true, true, true] rfl rfl (by kernel_rfl) (fun _ _ _ h => h) (Or.inl ⟨by rfl, ?_⟩) ?_ ?_
      rotate_left
      ·intro w'
       go_simp
       with_reducible rfl
      rotate_left
      ·simp only [Act.put, List.setIfInBounds_toArray, List.set_cons_zero, List.set_cons_succ, i64_w, i32_w]
       rfl
      refine done_ (by kernel_rfl) ?_
      have hnb65 := NB319_303.out
      have hnc65 := NB303_319.out
      have hnb66 := NB319_314.out
      have hnc66 := NB314_319.out
      have hnb67 := NB319_325.out
      have hnc67 := NB325_319.out
      have hcz68_0 : w64.cell? ⟨gb319, 0, none⟩ = some (.int .i64 t315) := z10BC BK319 0
      have hcz68_1 : w64.cell? ⟨gb319, 1, none⟩ = some (.slice Ao29 t316.length co29) := z10BC BK319 1
      have hfz68_0 := blk_frozen BK319.out 0
      have hfz68_1 := blk_frozen BK319.out 1
      go_upto_region 14 with (first | ((with_reducible refine gate_callee (f := 11) rfl ?_); refine goesL_ (some 48) rfl rfl Try.func11 (by kernel_rfl) rfl #[.agg #[.int .i64 t315, .slice Ao29 t316.length co29], .int .i64 1] rfl z10AT ?_; (with_reducible refine (laws_markPuzzle.calls kj10 t315 (fun k_ => some k_ = (.slice Ao29 t316.length co29 : Value).ownBlock) (.slice Ao29 t316.length co29) t316 1 t332 t333 w _ ?side1 ?side2 A59.out).mono ?_); (case side1 => exact (z10HB HB)); (case side2 => exact Kd.R_tight rfl HO_320001.out); rintro e w69 ⟨rfl, hy0, hb, hkp⟩; refine ⟨_, rfl, ?_⟩; have n0_ := Aside0.mk (Kd.R_mono (ok' := fun k_ => some k_ ≠ (.slice Ao29 t316.length co29 : Value).ownBlock ∧ some k_ ≠ (.slice Ao36 t321.length co36 : Value).ownBlock ∧ some k_ ≠ (.slice Ao63 t328.length co63 : Value).ownBlock) (Kd.R_keptB (HO_315001.out) hkp (fun k_ hk_ hs_ => (hk_.1.1) hs_)) (fun k_ hk_ => ⟨hk_.1.1.1, hk_.1.1.2, hk_.1.2⟩)); have n1_ := Aside0.mk (Kd.R_reok rfl hy0 (fun k_ e_ => HO_320001.out.1 k_ e_)); have n2_ := Aside0.mk (Kd.R_mono (ok' := fun k_ => some k_ ≠ (.slice Ao22 t310.length co22 : Value).ownBlock ∧ some k_ ≠ (.slice Ao29 t316.length co29 : Value).ownBlock ∧ some k_ ≠ (.slice Ao63 t328.length co63 : Value).ownBlock) (Kd.R_keptB (HO_326001.out) hkp (fun k_ hk_ hs_ => (hk_.1.2) hs_)) (fun k_ hk_ => ⟨hk_.1.1.1, hk_.1.1.2, hk_.1.2⟩)); have n3_ := Aside0.mk (blk_kept (z10LB BK303) hkp (fun hs_ => (fun e_ => (Kd.R_ne HO_320001.out BK303.out (by decide)) e_) hs_)); have n4_ := Aside0.mk (blk_kept (z10LB BK314) hkp (fun hs_ => (fun e_ => (Kd.R_ne HO_320001.out BK314.out (by decide)) e_) hs_)); have n5_ := Aside0.mk (blk_kept (z10LB BK319) hkp (fun hs_ => (fun e_ => (Kd.R_ne HO_320001.out BK319.out (by decide)) e_) hs_)); have n6_ := Aside0.mk (blk_kept (z10LB BK325) hkp (fun hs_ => (fun e_ => (Kd.R_ne HO_320001.out BK325.out (by decide)) e_) hs_)); have n7_ := Aside0.mk (Kd.R_mono (ok' := fun k_ => some k_ ≠ (.slice Ao22 t310.length co22 : Value).ownBlock ∧ some k_ ≠ (.slice Ao29 t316.length co29 : Value).ownBlock ∧ some k_ ≠ (.slice Ao36 t321.length co36 : Value).ownBlock) (Kd.R_keptB (HO330.out) hkp (fun k_ hk_ hs_ => (hk_.1.2) hs_)) (fun k_ hk_ => ⟨hk_.1.1.1.2, hk_.1.1.2, hk_.1.2⟩)); have n8_ := Aside0.mk (hb); clear HO_315001; clear HO_320001; clear HO_326001; clear BK303; clear BK314; clear BK319; clear BK325; clear HO330; clear HB; have HO_315001 := n0_; have HO_320001 := n1_; have HO_326001 := n2_; have BK303 := n3_; have BK314 := n4_; have BK319 := n5_; have BK325 := n6_; have HO330 := n7_; have HB := n8_; clear n0_ n1_ n2_ n3_ n4_ n5_ n6_ n7_ n8_; (try clear hb); (try clear hkp); (try clear hy0)))
      (try simp only [Act.put, List.setIfInBounds_toArray, List.set_cons_zero, List.set_cons_succ])
      go_cut [61] (fun v61 wc => ∃ (kq : Nat) (x61_59 : Bool), v61 = .bool x61_59 ∧ Aside0 (laws_FnExactHarderPuzzle.j1 kq t313 x61_59 a0_0 l0_1 t309 t310 t320 t321 = some r) ∧ Aside0 (kq ≤ kj10) ∧ Aside0 (Kd.R k55 55 wc w.heap.size (fun k_ => some k_ ≠ ((.slice Ao29 t316.length co29) : Value).ownBlock ∧ some k_ ≠ ((.slice Ao36 t321.length co36) : Value).ownBlock) (.slice Ao22 t310.length co22) t310) ∧ Aside0 (Kd.R k55 55 wc w.heap.size (fun k_ => some k_ ≠ ((.slice Ao22 t310.length co22) : Value).ownBlock ∧ some k_ ≠ ((.slice Ao36 t321.length co36) : Value).ownBlock) (.slice Ao29 t316.length co29) t333) ∧ Aside0 (Kd.R k55 55 wc w.heap.size (fun k_ => some k_ ≠ ((.slice Ao22 t310.length co22) : Value).ownBlock ∧ some k_ ≠ ((.slice Ao29 t316.length co29) : Value).ownBlock) (.slice Ao36 t321.length co36) t321) ∧ Aside0 (wc.heap[gb303]? = some (.cells #[.int .i64 a0_0, (.slice A0_1 l0_1.length c0_1)] 24 (0, 0))) ∧ Aside0 (wc.heap[gb314]? = some (.cells #[.int .i64 t309, (.slice Ao22 t310.length co22)] 31 (0, 0))) ∧ Aside0 (wc.heap[gb319]? = some (.cells #[.int .i64 t315, (.slice Ao29 t316.length co29)] 31 (0, 0))) ∧ Aside0 (wc.heap[gb325]? = some (.cells #[.int .i64 t320, (.slice Ao36 t321.length co36)] 31 (0, 0))) ∧ Aside0 (Below w.heap.size w wc))
      case first =>
       have H := HC60.out
       clear HC60
       by_cases c70 : t332 < 0
       ·rw [if_pos c70] at H
        have c70b0 : decide (t332 < 0) = true := decide_eq_true c70
        clear c70
        (first | rw [c70b0] | (simp only [i64_w, i32_w]; rw [c70b0]) | skip)
        have H' := Aside0.mk H
        clear H
        go_wp2
        go_meet
        case rel => exact ⟨_, (true), (by first | rfl | (simp; done) | (simp [*]; done)), H', ⟨by have := HJ10.out; first | omega | exact Nat.le_refl _⟩, ⟨by (with_reducible repeat (first | apply Kd.R_alloc | apply Kd.R_drewN | apply Kd.R_drew)); exact Kd.R_mono HO_315001.out (fun _ hk => ⟨hk.1, hk.2.1⟩)⟩, ⟨by (with_reducible repeat (first | apply Kd.R_alloc | apply Kd.R_drewN | apply Kd.R_drew)); exact Kd.R_mono HO_320001.out (fun _ hk => ⟨hk.1.1, hk.1.2⟩)⟩, ⟨by (with_reducible repeat (first | apply Kd.R_alloc | apply Kd.R_drewN | apply Kd.R_drew)); exact Kd.R_mono HO_326001.out (fun _ hk => ⟨hk.1, hk.2.1⟩)⟩, ⟨(z10LB BK303)⟩, ⟨(z10LB BK314)⟩, ⟨(z10LB BK319)⟩, ⟨(z10LB BK325)⟩, ⟨by exact (z10HB HB)⟩⟩
       ·rw [if_neg c70] at H
        have c70b0 : decide (t332 < 0) = false := decide_eq_false c70
        clear c70
        (first | rw [c70b0] | (simp only [i64_w, i32_w]; rw [c70b0]) | skip)
        replace H := Option.bind_eq_some_iff.mp H
        obtain ⟨t334, A710, H⟩ := H
        replace H : (if t334 = true then (laws_FnExactHarderPuzzle.j1 kj10 t313 (t324 != t313) a0_0 l0_1 t309 t310 t320 t321) else (laws_FnExactHarderPuzzle.j1 kj10 t313 true a0_0 l0_1 t309 t310 t320 t321)) = some r := H
        have A71 := Aside0.mk A710
        clear A710
        by_cases c72 : t334 = true
        ·subst c72
         have H1 : (laws_FnExactHarderPuzzle.j1 kj10 t313 (t324 != t313) a0_0 l0_1 t309 t310 t320 t321) = some r := by rw [if_pos rfl] at H; exact H
         clear H
         have H := H1
         clear H1
         have H' := Aside0.mk H
         clear H
         have hnb73 := NB325_303.out
         have hnc73 := NB303_325.out
         have hnb74 := NB325_314.out
         have hnc74 := NB314_325.out
         have hnb75 := NB325_319.out
         have hnc75 := NB319_325.out
         have hcz76_0 : w69.cell? ⟨gb325, 0, none⟩ = some (.int .i64 t320) := z10BC BK325 0
         have hcz76_1 : w69.cell? ⟨gb325, 1, none⟩ = some (.slice Ao36 t321.length co36) := z10BC BK325 1
         have hfz76_0 := blk_frozen BK325.out 0
         have hfz76_1 := blk_frozen BK325.out 1
         have hnb77 := NB314_303.out
         have hnc77 := NB303_314.out
         have hnb78 := NB314_319.out
         have hnc78 := NB319_314.out
         have hcz79_0 : w69.cell? ⟨gb314, 0, none⟩ = some (.int .i64 t309) := z10BC BK314 0
         have hcz79_1 : w69.cell? ⟨gb314, 1, none⟩ = some (.slice Ao22 t310.length co22) := z10BC BK314 1
         have hfz79_0 := blk_frozen BK314.out 0
         have hfz79_1 := blk_frozen BK314.out 1
         go_wp2_with (first | (go_at_call 10; (with_reducible refine (laws_eqPuzzle.calls kj10 t320 _ _ t321 t309 _ _ t310 true _ ?side1 ?side2 ?side3 ?side4 A71.out).mono ?_); (case side1 => repeat (first | exact (Kd.R_reads' HO_326001.out).2.2 | (with_reducible refine Kd.C_alloc ?_ _) | (with_reducible refine Kd.C_drewN ?_ _) | (with_reducible refine Kd.C_drew ?_))); (case side2 => exact (Kd.R_reads' HO_326001.out).2.1); (case side3 => repeat (first | exact (Kd.R_reads' HO_315001.out).2.2 | (with_reducible refine Kd.C_alloc ?_ _) | (with_reducible refine Kd.C_drewN ?_ _) | (with_reducible refine Kd.C_drew ?_))); (case side4 => exact (Kd.R_reads' HO_315001.out).2.1); rintro e w80 ⟨rfl, hb⟩; have n0_ := Aside0.mk (Kd.R_below (z10R HO_315001) hb); have n1_ := Aside0.mk (Kd.R_below (z10R HO_320001) hb); have n2_ := Aside0.mk (Kd.R_below (z10R HO_326001) hb); have n3_ := Aside0.mk (Kd.R_below (z10R HO330) hb); have n4_ := z10BB BK303 hb; have n5_ := z10BB BK314 hb; have n6_ := z10BB BK319 hb; have n7_ := z10BB BK325 hb; have n8_ := Aside0.mk (below_step (z10HB HB) hb); clear HO_315001; clear HO_320001; clear HO_326001; clear HO330; clear BK303; clear BK314; clear BK319; clear BK325; clear HB; have HO_315001 := n0_; have HO_320001 := n1_; have HO_326001 := n2_; have HO330 := n3_; have BK303 := n4_; have BK314 := n5_; have BK319 := n6_; have BK325 := n7_; have HB := n8_; clear n0_ n1_ n2_ n3_ n4_ n5_ n6_ n7_ n8_; (try clear hb); (try clear hb2); (try clear hk); (try clear hi)))
         go_meet
         case rel => exact ⟨_, ((t324 != t313)), (by first | rfl | (simp; done) | (simp [*]; done)), H', ⟨by have := HJ10.out; first | omega | exact Nat.le_refl _⟩, ⟨by (with_reducible repeat (first | apply Kd.R_alloc | apply Kd.R_drewN | apply Kd.R_drew)); exact Kd.R_mono HO_315001.out (fun _ hk => ⟨hk.1, hk.2.1⟩)⟩, ⟨by (with_reducible repeat (first | apply Kd.R_alloc | apply Kd.R_drewN | apply Kd.R_drew)); exact Kd.R_mono HO_320001.out (fun _ hk => ⟨hk.1.1, hk.1.2⟩)⟩, ⟨by (with_reducible repeat (first | apply Kd.R_alloc | apply Kd.R_drewN | apply Kd.R_drew)); exact Kd.R_mono HO_326001.out (fun _ hk => ⟨hk.1, hk.2.1⟩)⟩, ⟨(z10LB BK303)⟩, ⟨(z10LB BK314)⟩, ⟨(z10LB BK319)⟩, ⟨(z10LB BK325)⟩, ⟨by exact (z10HB HB)⟩⟩
        ·replace c72 := Bool.eq_false_iff.mpr c72
         subst c72
         have H1 : (laws_FnExactHarderPuzzle.j1 kj10 t313 true a0_0 l0_1 t309 t310 t320 t321) = some r := by rw [if_neg (show ¬ (false = true) by decide)] at H; exact H
         clear H
         have H := H1
         clear H1
         have H' := Aside0.mk H
         clear H
         have hnb81 := NB325_303.out
         have hnc81 := NB303_325.out
         have hnb82 := NB325_314.out
         have hnc82 := NB314_325.out
         have hnb83 := NB325_319.out
         have hnc83 := NB319_325.out
         have hcz84_0 : w69.cell? ⟨gb325, 0, none⟩ = some (.int .i64 t320) := z10BC BK325 0
         have hcz84_1 : w69.cell? ⟨gb325, 1, none⟩ = some (.slice Ao36 t321.length co36) := z10BC BK325 1
         have hfz84_0 := blk_frozen BK325.out 0
         have hfz84_1 := blk_frozen BK325.out 1
         have hnb85 := NB314_303.out
         have hnc85 := NB303_314.out
         have hnb86 := NB314_319.out
         have hnc86 := NB319_314.out
         have hcz87_0 : w69.cell? ⟨gb314, 0, none⟩ = some (.int .i64 t309) := z10BC BK314 0
         have hcz87_1 : w69.cell? ⟨gb314, 1, none⟩ = some (.slice Ao22 t310.length co22) := z10BC BK314 1
         have hfz87_0 := blk_frozen BK314.out 0
         have hfz87_1 := blk_frozen BK314.out 1
         go_wp2_with (first | (go_at_call 10; (with_reducible refine (laws_eqPuzzle.calls kj10 t320 _ _ t321 t309 _ _ t310 false _ ?side1 ?side2 ?side3 ?side4 A71.out).mono ?_); (case side1 => repeat (first | exact (Kd.R_reads' HO_326001.out).2.2 | (with_reducible refine Kd.C_alloc ?_ _) | (with_reducible refine Kd.C_drewN ?_ _) | (with_reducible refine Kd.C_drew ?_))); (case side2 => exact (Kd.R_reads' HO_326001.out).2.1); (case side3 => repeat (first | exact (Kd.R_reads' HO_315001.out).2.2 | (with_reducible refine Kd.C_alloc ?_ _) | (with_reducible refine Kd.C_drewN ?_ _) | (with_reducible refine Kd.C_drew ?_))); (case side4 => exact (Kd.R_reads' HO_315001.out).2.1); rintro e w88 ⟨rfl, hb⟩; have n0_ := Aside0.mk (Kd.R_below (z10R HO_315001) hb); have n1_ := Aside0.mk (Kd.R_below (z10R HO_320001) hb); have n2_ := Aside0.mk (Kd.R_below (z10R HO_326001) hb); have n3_ := Aside0.mk (Kd.R_below (z10R HO330) hb); have n4_ := z10BB BK303 hb; have n5_ := z10BB BK314 hb; have n6_ := z10BB BK319 hb; have n7_ := z10BB BK325 hb; have n8_ := Aside0.mk (below_step (z10HB HB) hb); clear HO_315001; clear HO_320001; clear HO_326001; clear HO330; clear BK303; clear BK314; clear BK319; clear BK325; clear HB; have HO_315001 := n0_; have HO_320001 := n1_; have HO_326001 := n2_; have HO330 := n3_; have BK303 := n4_; have BK314 := n5_; have BK319 := n6_; have BK325 := n7_; have HB := n8_; clear n0_ n1_ n2_ n3_ n4_ n5_ n6_ n7_ n8_; (try clear hb); (try clear hb2); (try clear hk); (try clear hi)))
         go_meet
         case rel => exact ⟨_, (true), (by first | rfl | (simp; done) | (simp [*]; done)), H', ⟨by have := HJ10.out; first | omega | exact Nat.le_refl _⟩, ⟨by (with_reducible repeat (first | apply Kd.R_alloc | apply Kd.R_drewN | apply Kd.R_drew)); exact Kd.R_mono HO_315001.out (fun _ hk => ⟨hk.1, hk.2.1⟩)⟩, ⟨by (with_reducible repeat (first | apply Kd.R_alloc | apply Kd.R_drewN | apply Kd.R_drew)); exact Kd.R_mono HO_320001.out (fun _ hk => ⟨hk.1.1, hk.1.2⟩)⟩, ⟨by (with_reducible repeat (first | apply Kd.R_alloc | apply Kd.R_drewN | apply Kd.R_drew)); exact Kd.R_mono HO_326001.out (fun _ hk => ⟨hk.1, hk.2.1⟩)⟩, ⟨(z10LB BK303)⟩, ⟨(z10LB BK314)⟩, ⟨(z10LB BK319)⟩, ⟨(z10LB BK325)⟩, ⟨by exact (z10HB HB)⟩⟩
      case rest =>
       clear HC60
       try clear c1
       try clear c2
       try clear p2
       try clear c3
       try clear c3b0
       try clear c4
       try clear c5
       try clear c6
       try clear c7
       try clear c8
       try clear c10
       try clear c11
       try clear c14
       try clear c15
       try clear c20
       try clear c26
       try clear c27
       try clear c32
       try clear c33
       try clear c34
       try clear c38
       try clear c39
       try clear c40
       try clear c41
       try clear c43
       try clear c44
       try clear c47
       try clear c48
       try clear c49
       try clear c51
       try clear c52
       try clear c55
       try clear c58
       try clear c65
       try clear c66
       try clear c67
       try clear c70
       try clear c70b0
       try clear c72
       try clear c73
       try clear c74
       try clear c75
       try clear c77
       try clear c78
       try clear c81
       try clear c82
       try clear c83
       try clear c85
       try clear c86
       try clear hcz13_0
       try clear hcz13_1
       try clear hcz15_0
       try clear hcz15_1
       try clear hcz21_0
       try clear hcz21_1
       try clear hcz23_0
       try clear hcz23_1
       try clear hcz28_0
       try clear hcz28_1
       try clear hcz35_0
       try clear hcz35_1
       try clear hcz42_0
       try clear hcz42_1
       try clear hcz45_0
       try clear hcz45_1
       try clear hcz50_0
       try clear hcz50_1
       try clear hcz53_0
       try clear hcz53_1
       try clear hcz5_0
       try clear hcz5_1
       try clear hcz68_0
       try clear hcz68_1
       try clear hcz76_0
       try clear hcz76_1
       try clear hcz79_0
       try clear hcz79_1
       try clear hcz84_0
       try clear hcz84_1
       try clear hcz87_0
       try clear hcz87_1
       try clear hfz13_0
       try clear hfz13_1
       try clear hfz15_0
       try clear hfz15_1
       try clear hfz21_0
       try clear hfz21_1
       try clear hfz23_0
       try clear hfz23_1
       try clear hfz28_0
       try clear hfz28_1
       try clear hfz35_0
       try clear hfz35_1
       try clear hfz42_0
       try clear hfz42_1
       try clear hfz45_0
       try clear hfz45_1
       try clear hfz50_0
       try clear hfz50_1
       try clear hfz53_0
       try clear hfz53_1
       try clear hfz5_0
       try clear hfz5_1
       try clear hfz68_0
       try clear hfz68_1
       try clear hfz76_0
       try clear hfz76_1
       try clear hfz79_0
       try clear hfz79_1
       try clear hfz84_0
       try clear hfz84_1
       try clear hfz87_0
       try clear hfz87_1
       try clear p2
       obtain ⟨kq, x61_59, rfl, HA, HJ59, HO_315001, HO_320001, HO_326001, BK303, BK314, BK319, BK325, HB⟩ := hcut
       have hl320001_59 := (Kd.R_reads' HO_320001.out).1
       rw [hl320001_59] at HO_320001
       (try simp only [hl320001_59])
       (try simp only [hl320001_59] at BK303)
       (try simp only [hl320001_59] at BK314)
       (try simp only [hl320001_59] at BK319)
       (try simp only [hl320001_59] at BK325)
       (try simp only [hl320001_59] at HO_315001)
       (try simp only [hl320001_59] at HO_326001)
       cases kq with
       | zero => exact absurd HA.out (by simp [laws_FnExactHarderPuzzle.j1])
       | succ kj59 =>
        have H := HA.out
        clear HA
        simp only [laws_FnExactHarderPuzzle.j1] at H
        by_cases c89 : x61_59 = true
        ·subst c89
         have H1 : (some false) = some r := by rw [if_pos rfl] at H; exact H
         clear H
         have H := H1
         clear H1
         obtain rfl := Option.some.inj H
         go_wp2
         go_ret
         exact ⟨by first | rfl | (simp [errW_none, errW_some] <;> rfl) | (simp [*, errW_none, errW_some] <;> rfl), by exact (z10HB HB)⟩
        ·replace c89 := Bool.eq_false_iff.mpr c89
         subst c89
         have H1 : ((laws_markPuzzle.f kj59 t320 t321 1).bind fun bt335 => ((laws_heldPuzzle.f kj59 t320 bt335.2 1).bind fun t337 => (if t337 < 0 then (some false) else (if t337 = bt335.1 then ((laws_toPuzzle.f kj59 a0_0 l0_1).bind fun bt338 => ((impl_HarderPuzzle.f kj59 bt338.1 bt338.2).bind fun bt342 => ((laws_eqPuzzle.f kj59 bt342.1 bt342.2.1 t309 t310).bind fun t348 => (if t348 = true then (laws_FnExactHarderPuzzle.j2 kj59 bt335.1 (bt342.2.2 != t313) t320 bt335.2) else (laws_FnExactHarderPuzzle.j2 kj59 bt335.1 true t320 bt335.2))))) else (some false))))) = some r := by rw [if_neg (show ¬ (false = true) by decide)] at H; exact H
         clear H
         have H := H1
         clear H1
         replace H := Option.bind_eq_some_iff.mp H
         obtain ⟨⟨t335, t336⟩, A900, H⟩ := H
         replace H : ((laws_heldPuzzle.f kj59 t320 t336 1).bind fun t337 => (if t337 < 0 then (some false) else (if t337 = t335 then ((laws_toPuzzle.f kj59 a0_0 l0_1).bind fun bt338 => ((impl_HarderPuzzle.f kj59 bt338.1 bt338.2).bind fun bt342 => ((laws_eqPuzzle.f kj59 bt342.1 bt342.2.1 t309 t310).bind fun t348 => (if t348 = true then (laws_FnExactHarderPuzzle.j2 kj59 t335 (bt342.2.2 != t313) t320 t336) else (laws_FnExactHarderPuzzle.j2 kj59 t335 true t320 t336))))) else (some false)))) = some r := H
         have A90 := Aside0.mk A900
         clear A900
         replace H := Option.bind_eq_some_iff.mp H
         obtain ⟨t337, A910, H⟩ := H
         replace H : (if t337 < 0 then (some false) else (if t337 = t335 then ((laws_toPuzzle.f kj59 a0_0 l0_1).bind fun bt338 => ((impl_HarderPuzzle.f kj59 bt338.1 bt338.2).bind fun bt342 => ((laws_eqPuzzle.f kj59 bt342.1 bt342.2.1 t309 t310).bind fun t348 => (if t348 = true then (laws_FnExactHarderPuzzle.j2 kj59 t335 (bt342.2.2 != t313) t320 t336) else (laws_FnExactHarderPuzzle.j2 kj59 t335 true t320 t336))))) else (some false))) = some r := H
         have A91 := Aside0.mk A910
         clear A910
         by_cases c92 : t337 < 0
         ·rw [if_pos c92] at H
          have c92b0 : decide (t337 < 0) = true := decide_eq_true c92
          (try (have c92b9 := c92b0; simp only [hl320001_59] at c92b9))
          clear c92
          obtain rfl := Option.some.inj H
          have hnb93 := NB325_303.out
          have hnc93 := NB303_325.out
          have hnb94 := NB325_314.out
          have hnc94 := NB314_325.out
          have hnb95 := NB325_319.out
          have hnc95 := NB319_325.out
          have hcz96_0 : wc.cell? ⟨gb325, 0, none⟩ = some (.int .i64 t320) := z10BC BK325 0
          have hcz96_1 : wc.cell? ⟨gb325, 1, none⟩ = some (.slice Ao36 t321.length co36) := z10BC BK325 1
          have hfz96_0 := blk_frozen BK325.out 0
          have hfz96_1 := blk_frozen BK325.out 1
          go_wp2_with (first | ((with_reducible refine gate_callee (f := 11) rfl ?_); refine goesL_ (some 64) rfl rfl Try.func11 (by kernel_rfl) rfl #[.agg #[.int .i64 t320, .slice Ao36 t321.length co36], .int .i64 1] rfl z10AT ?_; (with_reducible refine (laws_markPuzzle.calls kj59 t320 (fun k_ => some k_ = (.slice Ao36 t321.length co36 : Value).ownBlock) (.slice Ao36 t321.length co36) t321 1 t335 t336 w _ ?side1 ?side2 A90.out).mono ?_); (case side1 => exact (z10HB HB)); (case side2 => exact Kd.R_tight rfl HO_326001.out); rintro e w97 ⟨rfl, hy0, hb, hkp⟩; refine ⟨_, rfl, ?_⟩; have n0_ := Aside0.mk (Kd.R_mono (ok' := fun k_ => some k_ ≠ (.slice Ao29 t333.length co29 : Value).ownBlock ∧ some k_ ≠ (.slice Ao36 t321.length co36 : Value).ownBlock) (Kd.R_keptB (HO_315001.out) hkp (fun k_ hk_ hs_ => (hk_.2) hs_)) (fun k_ hk_ => ⟨hk_.1.1, hk_.1.2⟩)); have n1_ := Aside0.mk (Kd.R_mono (ok' := fun k_ => some k_ ≠ (.slice Ao22 t310.length co22 : Value).ownBlock ∧ some k_ ≠ (.slice Ao36 t321.length co36 : Value).ownBlock) (Kd.R_keptB (HO_320001.out) hkp (fun k_ hk_ hs_ => (hk_.2) hs_)) (fun k_ hk_ => ⟨hk_.1.1, hk_.1.2⟩)); have n2_ := Aside0.mk (Kd.R_reok rfl hy0 (fun k_ e_ => HO_326001.out.1 k_ e_)); have n3_ := Aside0.mk (blk_kept (z10LB BK303) hkp (fun hs_ => (fun e_ => (Kd.R_ne HO_326001.out BK303.out (by decide)) e_) hs_)); have n4_ := Aside0.mk (blk_kept (z10LB BK314) hkp (fun hs_ => (fun e_ => (Kd.R_ne HO_326001.out BK314.out (by decide)) e_) hs_)); have n5_ := Aside0.mk (blk_kept (z10LB BK319) hkp (fun hs_ => (fun e_ => (Kd.R_ne HO_326001.out BK319.out (by decide)) e_) hs_)); have n6_ := Aside0.mk (blk_kept (z10LB BK325) hkp (fun hs_ => (fun e_ => (Kd.R_ne HO_326001.out BK325.out (by decide)) e_) hs_)); have n7_ := Aside0.mk (hb); clear HO_315001; clear HO_320001; clear HO_326001; clear BK303; clear BK314; clear BK319; clear BK325; clear HB; have HO_315001 := n0_; have HO_320001 := n1_; have HO_326001 := n2_; have BK303 := n3_; have BK314 := n4_; have BK319 := n5_; have BK325 := n6_; have HB := n7_; clear n0_ n1_ n2_ n3_ n4_ n5_ n6_ n7_; (try clear hb); (try clear hkp); (try clear hy0); have hcz98_0 : w97.cell? ⟨gb325, 0, none⟩ = some (.int .i64 t320) := z10BC BK325 0; have hcz98_1 : w97.cell? ⟨gb325, 1, none⟩ = some (.slice Ao36 t321.length co36) := z10BC BK325 1; have hfz98_0 := blk_frozen BK325.out 0; have hfz98_1 := blk_frozen BK325.out 1) | ((with_reducible refine gate_callee (f := 16) rfl ?_); refine goesL_ (some 67) rfl rfl Try.func16 (by kernel_rfl) rfl #[.agg #[.int .i64 t320, .slice Ao36 t336.length co36], .int .i64 1] rfl (by (try simp only [List.map_toArray, List.map_cons, List.map_nil]); first | done | (rw [show t336.length = t321.length from (Kd.R_reads' HO_326001.out).1.symm] <;> rfl) | rfl | (simp only [List.length_drop, List.length_take]; rfl)) ?_; (with_reducible refine (laws_heldPuzzle.calls kj59 t320 _ _ t336 1 t337 _ ?side1 ?side2 A91.out).mono ?_); (case side1 => repeat (first | exact (Kd.R_reads' HO_326001.out).2.2 | (with_reducible refine Kd.C_alloc ?_ _) | (with_reducible refine Kd.C_drewN ?_ _) | (with_reducible refine Kd.C_drew ?_))); (case side2 => rw [show t336.length = t321.length from (Kd.R_reads' HO_326001.out).1.symm]; exact (Kd.R_reads' HO_326001.out).2.1); rintro e w99 ⟨rfl, hb⟩; refine ⟨_, rfl, ?_⟩; have n0_ := Aside0.mk (Kd.R_below (z10R HO_315001) hb); have n1_ := Aside0.mk (Kd.R_below (z10R HO_320001) hb); have n2_ := Aside0.mk (Kd.R_below (z10R HO_326001) hb); have n3_ := z10BB BK303 hb; have n4_ := z10BB BK314 hb; have n5_ := z10BB BK319 hb; have n6_ := z10BB BK325 hb; have n7_ := Aside0.mk (below_step (z10HB HB) hb); clear HO_315001; clear HO_320001; clear HO_326001; clear BK303; clear BK314; clear BK319; clear BK325; clear HB; have HO_315001 := n0_; have HO_320001 := n1_; have HO_326001 := n2_; have BK303 := n3_; have BK314 := n4_; have BK319 := n5_; have BK325 := n6_; have HB := n7_; clear n0_ n1_ n2_ n3_ n4_ n5_ n6_ n7_; (try clear hb); (try clear hb2); (try clear hk); (try clear hi)))
          go_ret
          exact ⟨by first | rfl | (simp [errW_none, errW_some] <;> rfl) | (simp [*, errW_none, errW_some] <;> rfl), by exact (z10HB HB)⟩
         ·rw [if_neg c92] at H
          have c92b0 : decide (t337 < 0) = false := decide_eq_false c92
          (try (have c92b9 := c92b0; simp only [hl320001_59] at c92b9))
          clear c92
          by_cases c100 : t337 = t335
          ·rw [if_pos c100] at H
           have c100b0 : (t337 == t335) = true := beq_iff_eq.mpr c100
           have c100b1 : (t337 != t335) = false := bne_eq_false_iff_eq.mpr c100
           (try (have c100b9 := c100b0; simp only [hl320001_59] at c100b9))
           clear c100
           replace H := Option.bind_eq_some_iff.mp H
           obtain ⟨⟨t338, t339⟩, A1010, H⟩ := H
           replace H : ((impl_HarderPuzzle.f kj59 t338 t339).bind fun bt342 => ((laws_eqPuzzle.f kj59 bt342.1 bt342.2.1 t309 t310).bind fun t348 => (if t348 = true then (laws_FnExactHarderPuzzle.j2 kj59 t335 (bt342.2.2 != t313) t320 t336) else (laws_FnExactHarderPuzzle.j2 kj59 t335 true t320 t336)))) = some r := H
           have A101 := Aside0.mk A1010
           clear A1010
           replace H := Option.bind_eq_some_iff.mp H
           obtain ⟨⟨t342, t343, t346⟩, A1020, H⟩ := H
           replace H : ((laws_eqPuzzle.f kj59 t342 t343 t309 t310).bind fun t348 => (if t348 = true then (laws_FnExactHarderPuzzle.j2 kj59 t335 (t346 != t313) t320 t336) else (laws_FnExactHarderPuzzle.j2 kj59 t335 true t320 t336))) = some r := H
           have A102 := Aside0.mk A1020
           clear A1020
           have HC103 := Aside0.mk H
           clear H
           have hnb104 := NB325_303.out
           have hnc104 := NB303_325.out
           have hnb105 := NB325_314.out
           have hnc105 := NB314_325.out
           have hnb106 := NB325_319.out
           have hnc106 := NB319_325.out
           have hcz107_0 : wc.cell? ⟨gb325, 0, none⟩ = some (.int .i64 t320) := z10BC BK325 0
           have hcz107_1 : wc.cell? ⟨gb325, 1, none⟩ = some (.slice Ao36 t321.length co36) := z10BC BK325 1
           have hfz107_0 := blk_frozen BK325.out 0
           have hfz107_1 := blk_frozen BK325.out 1
           go_upto_region 25 with (first | ((with_reducible refine gate_callee (f := 11) rfl ?_); refine goesL_ (some 64) rfl rfl Try.func11 (by kernel_rfl) rfl #[.agg #[.int .i64 t320, .slice Ao36 t321.length co36], .int .i64 1] rfl z10AT ?_; (with_reducible refine (laws_markPuzzle.calls kj59 t320 (fun k_ => some k_ = (.slice Ao36 t321.length co36 : Value).ownBlock) (.slice Ao36 t321.length co36) t321 1 t335 t336 w _ ?side1 ?side2 A90.out).mono ?_); (case side1 => exact (z10HB HB)); (case side2 => exact Kd.R_tight rfl HO_326001.out); rintro e w108 ⟨rfl, hy0, hb, hkp⟩; refine ⟨_, rfl, ?_⟩; have n0_ := Aside0.mk (Kd.R_mono (ok' := fun k_ => some k_ ≠ (.slice Ao29 t333.length co29 : Value).ownBlock ∧ some k_ ≠ (.slice Ao36 t321.length co36 : Value).ownBlock) (Kd.R_keptB (HO_315001.out) hkp (fun k_ hk_ hs_ => (hk_.2) hs_)) (fun k_ hk_ => ⟨hk_.1.1, hk_.1.2⟩)); have n1_ := Aside0.mk (Kd.R_mono (ok' := fun k_ => some k_ ≠ (.slice Ao22 t310.length co22 : Value).ownBlock ∧ some k_ ≠ (.slice Ao36 t321.length co36 : Value).ownBlock) (Kd.R_keptB (HO_320001.out) hkp (fun k_ hk_ hs_ => (hk_.2) hs_)) (fun k_ hk_ => ⟨hk_.1.1, hk_.1.2⟩)); have n2_ := Aside0.mk (Kd.R_reok rfl hy0 (fun k_ e_ => HO_326001.out.1 k_ e_)); have n3_ := Aside0.mk (blk_kept (z10LB BK303) hkp (fun hs_ => (fun e_ => (Kd.R_ne HO_326001.out BK303.out (by decide)) e_) hs_)); have n4_ := Aside0.mk (blk_kept (z10LB BK314) hkp (fun hs_ => (fun e_ => (Kd.R_ne HO_326001.out BK314.out (by decide)) e_) hs_)); have n5_ := Aside0.mk (blk_kept (z10LB BK319) hkp (fun hs_ => (fun e_ => (Kd.R_ne HO_326001.out BK319.out (by decide)) e_) hs_)); have n6_ := Aside0.mk (blk_kept (z10LB BK325) hkp (fun hs_ => (fun e_ => (Kd.R_ne HO_326001.out BK325.out (by decide)) e_) hs_)); have n7_ := Aside0.mk (hb); clear HO_315001; clear HO_320001; clear HO_326001; clear BK303; clear BK314; clear BK319; clear BK325; clear HB; have HO_315001 := n0_; have HO_320001 := n1_; have HO_326001 := n2_; have BK303 := n3_; have BK314 := n4_; have BK319 := n5_; have BK325 := n6_; have HB := n7_; clear n0_ n1_ n2_ n3_ n4_ n5_ n6_ n7_; (try clear hb); (try clear hkp); (try clear hy0); have hcz109_0 : w108.cell? ⟨gb325, 0, none⟩ = some (.int .i64 t320) := z10BC BK325 0; have hcz109_1 : w108.cell? ⟨gb325, 1, none⟩ = some (.slice Ao36 t321.length co36) := z10BC BK325 1; have hfz109_0 := blk_frozen BK325.out 0; have hfz109_1 := blk_frozen BK325.out 1) | ((with_reducible refine gate_callee (f := 16) rfl ?_); refine goesL_ (some 67) rfl rfl Try.func16 (by kernel_rfl) rfl #[.agg #[.int .i64 t320, .slice Ao36 t336.length co36], .int .i64 1] rfl (by (try simp only [List.map_toArray, List.map_cons, List.map_nil]); first | done | (rw [show t336.length = t321.length from (Kd.R_reads' HO_326001.out).1.symm] <;> rfl) | rfl | (simp only [List.length_drop, List.length_take]; rfl)) ?_; (with_reducible refine (laws_heldPuzzle.calls kj59 t320 _ _ t336 1 t337 _ ?side1 ?side2 A91.out).mono ?_); (case side1 => repeat (first | exact (Kd.R_reads' HO_326001.out).2.2 | (with_reducible refine Kd.C_alloc ?_ _) | (with_reducible refine Kd.C_drewN ?_ _) | (with_reducible refine Kd.C_drew ?_))); (case side2 => rw [show t336.length = t321.length from (Kd.R_reads' HO_326001.out).1.symm]; exact (Kd.R_reads' HO_326001.out).2.1); rintro e w110 ⟨rfl, hb⟩; refine ⟨_, rfl, ?_⟩; have n0_ := Aside0.mk (Kd.R_below (z10R HO_315001) hb); have n1_ := Aside0.mk (Kd.R_below (z10R HO_320001) hb); have n2_ := Aside0.mk (Kd.R_below (z10R HO_326001) hb); have n3_ := z10BB BK303 hb; have n4_ := z10BB BK314 hb; have n5_ := z10BB BK319 hb; have n6_ := z10BB BK325 hb; have n7_ := Aside0.mk (below_step (z10HB HB) hb); clear HO_315001; clear HO_320001; clear HO_326001; clear BK303; clear BK314; clear BK319; clear BK325; clear HB; have HO_315001 := n0_; have HO_320001 := n1_; have HO_326001 := n2_; have BK303 := n3_; have BK314 := n4_; have BK319 := n5_; have BK325 := n6_; have HB := n7_; clear n0_ n1_ n2_ n3_ n4_ n5_ n6_ n7_; (try clear hb); (try clear hb2); (try clear hk); (try clear hi); have hnb111 := NB303_314.out; have hnc111 := NB314_303.out; have hnb112 := NB303_319.out; have hnc112 := NB319_303.out; have hcz113_0 : w110.cell? ⟨gb303, 0, none⟩ = some (.int .i64 a0_0) := z10BC BK303 0; have hcz113_1 : w110.cell? ⟨gb303, 1, none⟩ = some (.slice A0_1 l0_1.length c0_1) := z10BC BK303 1; have hfz113_0 := blk_frozen BK303.out 0; have hfz113_1 := blk_frozen BK303.out 1) | ((with_reducible refine gate_callee (f := 7) rfl ?_); refine goesL_ (some 75) rfl rfl Try.func7 (by kernel_rfl) rfl #[.agg #[.int .i64 a0_0, .slice A0_1 l0_1.length c0_1]] rfl z10AT ?_; (with_reducible refine (laws_toPuzzle.calls kj59 a0_0 _ _ l0_1 t338 t339 _ ?side1 ?side2 A101.out).mono ?_); (case side1 => repeat (first | exact (Kd.C_below HR0_1.out HB.out) | (with_reducible refine Kd.C_alloc ?_ _) | (with_reducible refine Kd.C_drewN ?_ _) | (with_reducible refine Kd.C_drew ?_))); (case side2 => exact HC0_1.out); rintro e w114 ⟨v340, rfl, ho0, hb⟩; refine ⟨_, rfl, ?_⟩; have n0_ := Aside0.mk (Kd.R_elder' (z10R HO_315001) (Kd.R_base ho0) hb); have n1_ := Aside0.mk (Kd.R_elder' (z10R HO_320001) (Kd.R_base ho0) hb); have n2_ := Aside0.mk (Kd.R_elder' (z10R HO_326001) (Kd.R_base ho0) hb); have n3_ := Aside0.mk (Kd.R_lower (Kd.R_new' (Kd.R_new' (Kd.R_new' ho0 (Kd.R_lt (z10R HO_315001))) (Kd.R_lt (z10R HO_320001))) (Kd.R_lt (z10R HO_326001))) (below_size (z10HB HB))); have n4_ := z10BB BK303 hb; have n5_ := z10BB BK314 hb; have n6_ := z10BB BK319 hb; have n7_ := z10BB BK325 hb; have n8_ := Aside0.mk (below_step (z10HB HB) hb); clear HO_315001; clear HO_320001; clear HO_326001; clear BK303; clear BK314; clear BK319; clear BK325; clear HB; have HO_315001 := n0_; have HO_320001 := n1_; have HO_326001 := n2_; have HO341 := n3_; have BK303 := n4_; have BK314 := n5_; have BK319 := n6_; have BK325 := n7_; have HB := n8_; clear n0_ n1_ n2_ n3_ n4_ n5_ n6_ n7_ n8_; (try clear hb); (try clear hb2); (try clear hk); (try clear hi); (try clear ho0); obtain ⟨Ao115, co115, eo115⟩ := Kd.R_slice HO341.out; subst eo115) | ((with_reducible refine gate_callee (f := 15) rfl ?_); refine goesL_ (some 76) rfl rfl Try.func15 (by kernel_rfl) rfl #[.agg #[.int .i64 t338, .slice Ao115 t339.length co115]] rfl z10AT ?_; (with_reducible refine (impl_HarderPuzzle.calls kj59 t338 _ _ t339 t342 t343 t346 _ ?side1 ?side2 A102.out).mono ?_); (case side1 => repeat (first | exact (Kd.R_reads' HO341.out).2.2 | (with_reducible refine Kd.C_alloc ?_ _) | (with_reducible refine Kd.C_drewN ?_ _) | (with_reducible refine Kd.C_drew ?_))); (case side2 => exact (Kd.R_reads' HO341.out).2.1); rintro e w116 ⟨v344, rfl, ho0, hb⟩; refine ⟨_, rfl, ?_⟩; have n0_ := Aside0.mk (Kd.R_elder' (z10R HO_315001) (Kd.R_base ho0) hb); have n1_ := Aside0.mk (Kd.R_elder' (z10R HO_320001) (Kd.R_base ho0) hb); have n2_ := Aside0.mk (Kd.R_elder' (z10R HO_326001) (Kd.R_base ho0) hb); have n3_ := Aside0.mk (Kd.R_elder' (z10R HO341) (Kd.R_base ho0) hb); have n4_ := Aside0.mk (Kd.R_lower (Kd.R_new' (Kd.R_new' (Kd.R_new' (Kd.R_new' ho0 (Kd.R_lt (z10R HO_315001))) (Kd.R_lt (z10R HO_320001))) (Kd.R_lt (z10R HO_326001))) (Kd.R_lt (z10R HO341))) (below_size (z10HB HB))); have n5_ := z10BB BK303 hb; have n6_ := z10BB BK314 hb; have n7_ := z10BB BK319 hb; have n8_ := z10BB BK325 hb; have n9_ := Aside0.mk (below_step (z10HB HB) hb); clear HO_315001; clear HO_320001; clear HO_326001; clear HO341; clear BK303; clear BK314; clear BK319; clear BK325; clear HB; have HO_315001 := n0_; have HO_320001 := n1_; have HO_326001 := n2_; have HO341 := n3_; have HO345 := n4_; have BK303 := n5_; have BK314 := n6_; have BK319 := n7_; have BK325 := n8_; have HB := n9_; clear n0_ n1_ n2_ n3_ n4_ n5_ n6_ n7_ n8_ n9_; (try clear hb); (try clear hb2); (try clear hk); (try clear hi); (try clear ho0)) | ((with_reducible refine gate_dst (N := 12) rfl ?_); refine box_event ?hg (N := 12) ?hd (cs := #[.int .i64 0, .slice none 0 0]) (t := 31) ?hr ?_; (case hd => rfl); (case hg => rfl); (case hr => first | (go_simp; done) | (go_simp; rfl)); intro gb347 hg w117 hbox hb; have n0_ := Aside0.mk (Kd.R_below (z10R HO_315001) hb); have n1_ := Aside0.mk (Kd.R_below (z10R HO_320001) hb); have n2_ := Aside0.mk (Kd.R_below (z10R HO_326001) hb); have n3_ := Aside0.mk (Kd.R_below (z10R HO341) hb); have n4_ := Aside0.mk (Kd.R_below (z10R HO345) hb); have n5_ := z10BB BK303 hb; have n6_ := z10BB BK314 hb; have n7_ := z10BB BK319 hb; have n8_ := z10BB BK325 hb; have n9_ := Aside0.mk (below_step (z10HB HB) hb); have n10_ := Aside0.mk (hbox); have n11_ := Aside0.mk ((by rw [hg]; exact (below_size (z10HB HB)) : w.heap.size ≤ gb347)); have n12_ := Aside0.mk ((by rw [hg]; exact (below_size (z10HB HB)) : w.heap.size ≤ gb347)); have n13_ := Aside0.mk ((by rw [hg]; exact Nat.ne_of_lt ((z10LT BK303)) : gb303 ≠ gb347)); have n14_ := Aside0.mk ((by rw [hg]; exact Nat.ne_of_gt ((z10LT BK303)) : gb347 ≠ gb303)); have n15_ := Aside0.mk ((by rw [hg]; exact Nat.ne_of_lt ((z10LT BK314)) : gb314 ≠ gb347)); have n16_ := Aside0.mk ((by rw [hg]; exact Nat.ne_of_gt ((z10LT BK314)) : gb347 ≠ gb314)); have n17_ := Aside0.mk ((by rw [hg]; exact Nat.ne_of_lt ((z10LT BK319)) : gb319 ≠ gb347)); have n18_ := Aside0.mk ((by rw [hg]; exact Nat.ne_of_gt ((z10LT BK319)) : gb347 ≠ gb319)); have n19_ := Aside0.mk ((by rw [hg]; exact Nat.ne_of_lt ((z10LT BK325)) : gb325 ≠ gb347)); have n20_ := Aside0.mk ((by rw [hg]; exact Nat.ne_of_gt ((z10LT BK325)) : gb347 ≠ gb325)); clear HO_315001; clear HO_320001; clear HO_326001; clear HO341; clear HO345; clear BK303; clear BK314; clear BK319; clear BK325; clear HB; have HO_315001 := n0_; have HO_320001 := n1_; have HO_326001 := n2_; have HO341 := n3_; have HO345 := n4_; have BK303 := n5_; have BK314 := n6_; have BK319 := n7_; have BK325 := n8_; have HB := n9_; have BK347 := n10_; have GW347 := n11_; have GE347 := n12_; have NB303_347 := n13_; have NB347_303 := n14_; have NB314_347 := n15_; have NB347_314 := n16_; have NB319_347 := n17_; have NB347_319 := n18_; have NB325_347 := n19_; have NB347_325 := n20_; clear n0_ n1_ n2_ n3_ n4_ n5_ n6_ n7_ n8_ n9_ n10_ n11_ n12_ n13_ n14_ n15_ n16_ n17_ n18_ n19_ n20_; clear hb hbox hg; have hnb118 := NB347_303.out; have hnc118 := NB303_347.out; have hnb119 := NB347_314.out; have hnc119 := NB314_347.out; have hnb120 := NB347_319.out; have hnc120 := NB319_347.out; have hnb121 := NB347_325.out; have hnc121 := NB325_347.out; have hcz122_0 : w117.cell? ⟨gb347, 0, none⟩ = some (.int .i64 0) := z10BC BK347 0; have hcz122_1 : w117.cell? ⟨gb347, 1, none⟩ = some (.slice none 0 0) := z10BC BK347 1; have hfz122_0 := blk_frozen BK347.out 0; have hfz122_1 := blk_frozen BK347.out 1; obtain ⟨Ao123, co123, eo123⟩ := Kd.R_slice HO345.out; subst eo123))
           (try simp only [Act.put, List.setIfInBounds_toArray, List.set_cons_zero, List.set_cons_succ])
           go_cut [87] (fun v87 wc => ∃ (kq : Nat) (x87_102 : Bool), v87 = .bool x87_102 ∧ Aside0 (laws_FnExactHarderPuzzle.j2 kq t335 x87_102 t320 t336 = some r) ∧ Aside0 (kq ≤ kj59) ∧ Aside0 (Kd.R k55 55 wc w.heap.size (fun k_ => some k_ ≠ ((.slice Ao29 t333.length co29) : Value).ownBlock ∧ some k_ ≠ ((.slice Ao36 t321.length co36) : Value).ownBlock ∧ some k_ ≠ ((.slice Ao123 t343.length co123) : Value).ownBlock) (.slice Ao22 t310.length co22) t310) ∧ Aside0 (Kd.R k55 55 wc w.heap.size (fun k_ => some k_ ≠ ((.slice Ao22 t310.length co22) : Value).ownBlock ∧ some k_ ≠ ((.slice Ao36 t321.length co36) : Value).ownBlock ∧ some k_ ≠ ((.slice Ao123 t343.length co123) : Value).ownBlock) (.slice Ao29 t333.length co29) t333) ∧ Aside0 (Kd.R k55 55 wc w.heap.size (fun k_ => some k_ ≠ ((.slice Ao22 t310.length co22) : Value).ownBlock ∧ some k_ ≠ ((.slice Ao29 t333.length co29) : Value).ownBlock ∧ some k_ ≠ ((.slice Ao123 t343.length co123) : Value).ownBlock) (.slice Ao36 t321.length co36) t336) ∧ Aside0 (Kd.R k55 55 wc w.heap.size (fun k_ => some k_ ≠ ((.slice Ao22 t310.length co22) : Value).ownBlock ∧ some k_ ≠ ((.slice Ao29 t333.length co29) : Value).ownBlock ∧ some k_ ≠ ((.slice Ao36 t321.length co36) : Value).ownBlock) (.slice Ao123 t343.length co123) t343) ∧ Aside0 (wc.heap[gb303]? = some (.cells #[.int .i64 a0_0, (.slice A0_1 l0_1.length c0_1)] 24 (0, 0))) ∧ Aside0 (wc.heap[gb314]? = some (.cells #[.int .i64 t309, (.slice Ao22 t310.length co22)] 31 (0, 0))) ∧ Aside0 (wc.heap[gb319]? = some (.cells #[.int .i64 t315, (.slice Ao29 t333.length co29)] 31 (0, 0))) ∧ Aside0 (wc.heap[gb325]? = some (.cells #[.int .i64 t320, (.slice Ao36 t321.length co36)] 31 (0, 0))) ∧ Aside0 (wc.heap[gb347]? = some (.cells #[.int .i64 t342, (.slice Ao123 t343.length co123)] 31 (0, 0))) ∧ Aside0 (Below w.heap.size w wc))
           case first =>
            have H := HC103.out
            clear HC103
            replace H := Option.bind_eq_some_iff.mp H
            obtain ⟨t348, A1240, H⟩ := H
            replace H : (if t348 = true then (laws_FnExactHarderPuzzle.j2 kj59 t335 (t346 != t313) t320 t336) else (laws_FnExactHarderPuzzle.j2 kj59 t335 true t320 t336)) = some r := H
            have A124 := Aside0.mk A1240
            clear A1240
            by_cases c125 : t348 = true
            ·subst c125
             have H1 : (laws_FnExactHarderPuzzle.j2 kj59 t335 (t346 != t313) t320 t336) = some r := by rw [if_pos rfl] at H; exact H
             clear H
             have H := H1
             clear H1
             have H' := Aside0.mk H
             clear H
             have hnb126 := NB347_303.out
             have hnc126 := NB303_347.out
             have hnb127 := NB347_314.out
             have hnc127 := NB314_347.out
             have hnb128 := NB347_319.out
             have hnc128 := NB319_347.out
             have hnb129 := NB347_325.out
             have hnc129 := NB325_347.out
             have hcz130_0 : w117.cell? ⟨gb347, 0, none⟩ = some (.int .i64 0) := z10BC BK347 0
             have hcz130_1 : w117.cell? ⟨gb347, 1, none⟩ = some (.slice none 0 0) := z10BC BK347 1
             have hfz130_0 := blk_frozen BK347.out 0
             have hfz130_1 := blk_frozen BK347.out 1
             have hnb131 := NB314_303.out
             have hnc131 := NB303_314.out
             have hnb132 := NB314_319.out
             have hnc132 := NB319_314.out
             have hnb133 := NB314_325.out
             have hnc133 := NB325_314.out
             have hcz134_0 : w117.cell? ⟨gb314, 0, none⟩ = some (.int .i64 t309) := z10BC BK314 0
             have hcz134_1 : w117.cell? ⟨gb314, 1, none⟩ = some (.slice Ao22 t310.length co22) := z10BC BK314 1
             have hfz134_0 := blk_frozen BK314.out 0
             have hfz134_1 := blk_frozen BK314.out 1
             go_wp2_with (first | ((with_reducible refine gate_callee (f := 10) rfl ?_); refine goesL_ (some 81) rfl rfl Try.func10 (by kernel_rfl) rfl #[.agg #[.int .i64 t342, .slice Ao123 t343.length co123], .agg #[.int .i64 t309, .slice Ao22 t310.length co22]] rfl z10AT ?_; (with_reducible refine (laws_eqPuzzle.calls kj59 t342 _ _ t343 t309 _ _ t310 true _ ?side1 ?side2 ?side3 ?side4 A124.out).mono ?_); (case side1 => refine (Kd.R_reads' (e := 55) (base := w.heap.size) (ok := fun k_ => ((((True ∧ some k_ ≠ (.slice Ao22 t310.length co22 : Value).ownBlock) ∧ some k_ ≠ (.slice Ao29 t333.length co29 : Value).ownBlock) ∧ some k_ ≠ (.slice Ao36 t321.length co36 : Value).ownBlock) ∧ some k_ ≠ (.slice Ao115 t339.length co115 : Value).ownBlock)) (n := t343.length) (c := co123) ?_).2.2; exact (by (with_reducible repeat (first | apply Kd.R_alloc | apply Kd.R_drewN | apply Kd.R_drew)); exact (Kd.R_mono (Kd.R_far (p := ⟨gb347, 1, none⟩) (Kd.R_far (p := ⟨gb347, 0, none⟩) (Kd.R_types HO345.out BK347.out (by decide)) (fun _ hk => hk.2) (.int .i64 t342)) (fun _ hk => hk.2) (.slice Ao123 t343.length co123)) (fun _ h_ => h_.1)))); (case side2 => exact (Kd.R_reads' HO345.out).2.1); (case side3 => refine (Kd.R_reads' (e := 55) (base := w.heap.size) (ok := fun k_ => (((some k_ ≠ (.slice Ao29 t333.length co29 : Value).ownBlock ∧ some k_ ≠ (.slice Ao36 t321.length co36 : Value).ownBlock) ∧ some k_ ≠ (.slice Ao115 t339.length co115 : Value).ownBlock) ∧ some k_ ≠ (.slice Ao123 t343.length co123 : Value).ownBlock)) (n := t310.length) (c := co22) ?_).2.2; exact (by (with_reducible repeat (first | apply Kd.R_alloc | apply Kd.R_drewN | apply Kd.R_drew)); exact (Kd.R_mono (Kd.R_far (p := ⟨gb347, 1, none⟩) (Kd.R_far (p := ⟨gb347, 0, none⟩) (Kd.R_types HO_315001.out BK347.out (by decide)) (fun _ hk => hk.2) (.int .i64 t342)) (fun _ hk => hk.2) (.slice Ao123 t343.length co123)) (fun _ h_ => h_.1)))); (case side4 => exact (Kd.R_reads' HO_315001.out).2.1); rintro e w135 ⟨rfl, hb⟩; refine ⟨_, rfl, ?_⟩; have n0_ := Aside0.mk (Kd.R_below (by (with_reducible repeat (first | apply Kd.R_alloc | apply Kd.R_drewN | apply Kd.R_drew)); exact (Kd.R_mono (Kd.R_far (p := ⟨gb347, 1, none⟩) (Kd.R_far (p := ⟨gb347, 0, none⟩) (Kd.R_types HO_315001.out BK347.out (by decide)) (fun _ hk => hk.2) (.int .i64 t342)) (fun _ hk => hk.2) (.slice Ao123 t343.length co123)) (fun _ h_ => h_.1))) hb); have n1_ := Aside0.mk (Kd.R_below (by (with_reducible repeat (first | apply Kd.R_alloc | apply Kd.R_drewN | apply Kd.R_drew)); exact (Kd.R_mono (Kd.R_far (p := ⟨gb347, 1, none⟩) (Kd.R_far (p := ⟨gb347, 0, none⟩) (Kd.R_types HO_320001.out BK347.out (by decide)) (fun _ hk => hk.2) (.int .i64 t342)) (fun _ hk => hk.2) (.slice Ao123 t343.length co123)) (fun _ h_ => h_.1))) hb); have n2_ := Aside0.mk (Kd.R_below (by (with_reducible repeat (first | apply Kd.R_alloc | apply Kd.R_drewN | apply Kd.R_drew)); exact (Kd.R_mono (Kd.R_far (p := ⟨gb347, 1, none⟩) (Kd.R_far (p := ⟨gb347, 0, none⟩) (Kd.R_types HO_326001.out BK347.out (by decide)) (fun _ hk => hk.2) (.int .i64 t342)) (fun _ hk => hk.2) (.slice Ao123 t343.length co123)) (fun _ h_ => h_.1))) hb); have n3_ := Aside0.mk (Kd.R_below (by (with_reducible repeat (first | apply Kd.R_alloc | apply Kd.R_drewN | apply Kd.R_drew)); exact (Kd.R_mono (Kd.R_far (p := ⟨gb347, 1, none⟩) (Kd.R_far (p := ⟨gb347, 0, none⟩) (Kd.R_types HO341.out BK347.out (by decide)) (fun _ hk => hk.2) (.int .i64 t342)) (fun _ hk => hk.2) (.slice Ao123 t343.length co123)) (fun _ h_ => h_.1))) hb); have n4_ := Aside0.mk (Kd.R_below (by (with_reducible repeat (first | apply Kd.R_alloc | apply Kd.R_drewN | apply Kd.R_drew)); exact (Kd.R_mono (Kd.R_far (p := ⟨gb347, 1, none⟩) (Kd.R_far (p := ⟨gb347, 0, none⟩) (Kd.R_types HO345.out BK347.out (by decide)) (fun _ hk => hk.2) (.int .i64 t342)) (fun _ hk => hk.2) (.slice Ao123 t343.length co123)) (fun _ h_ => h_.1))) hb); have n5_ := z10BB BK303 hb; have n6_ := z10BB BK314 hb; have n7_ := z10BB BK319 hb; have n8_ := z10BB BK325 hb; have n9_ := Aside0.mk (blk_below (g := gb347) (o := .cells #[.int .i64 t342, .slice Ao123 t343.length co123] 31 (0, 0)) (by (with_reducible repeat (first | refine blk_drewN ?_ _ | refine blk_drew ?_ | refine blk_alloc ?_ _)); refine blk_put (cs := #[.int .i64 t342, .slice none 0 0]) ?_ 1 _ rfl; (with_reducible repeat (first | refine blk_drewN ?_ _ | refine blk_drew ?_ | refine blk_alloc ?_ _)); refine blk_put (cs := #[.int .i64 0, .slice none 0 0]) ?_ 0 _ rfl; exact (z10LB BK347)) hb); have n10_ := Aside0.mk (below_step (z10HB HB) hb); clear HO_315001; clear HO_320001; clear HO_326001; clear HO341; clear HO345; clear BK303; clear BK314; clear BK319; clear BK325; clear BK347; clear HB; have HO_315001 := n0_; have HO_320001 := n1_; have HO_326001 := n2_; have HO341 := n3_; have HO345 := n4_; have BK303 := n5_; have BK314 := n6_; have BK319 := n7_; have BK325 := n8_; have BK347 := n9_; have HB := n10_; clear n0_ n1_ n2_ n3_ n4_ n5_ n6_ n7_ n8_ n9_ n10_; (try clear hb); (try clear hb2); (try clear hk); (try clear hi)))
             go_meet
             case rel => exact ⟨_, ((t346 != t313)), (by first | rfl | (simp; done) | (simp [*]; done)), H', ⟨by have := HJ10.out; have := HJ59.out; first | omega | exact Nat.le_refl _⟩, ⟨by (try simp only [hl320001_59]); (with_reducible repeat (first | apply Kd.R_alloc | apply Kd.R_drewN | apply Kd.R_drew)); exact Kd.R_mono HO_315001.out (fun _ hk => ⟨hk.1.1.1, ⟨hk.1.1.2, hk.2⟩⟩)⟩, ⟨by (try simp only [hl320001_59]); (with_reducible repeat (first | apply Kd.R_alloc | apply Kd.R_drewN | apply Kd.R_drew)); exact Kd.R_mono HO_320001.out (fun _ hk => ⟨hk.1.1.1, ⟨hk.1.1.2, hk.2⟩⟩)⟩, ⟨by (try simp only [hl320001_59]); (with_reducible repeat (first | apply Kd.R_alloc | apply Kd.R_drewN | apply Kd.R_drew)); exact Kd.R_mono HO_326001.out (fun _ hk => ⟨hk.1.1.1, ⟨hk.1.1.2, hk.2⟩⟩)⟩, ⟨by (try simp only [hl320001_59]); (with_reducible repeat (first | apply Kd.R_alloc | apply Kd.R_drewN | apply Kd.R_drew)); exact Kd.R_mono HO345.out (fun _ hk => ⟨hk.1.1.1.2, ⟨hk.1.1.2, hk.1.2⟩⟩)⟩, ⟨by (try simp only [hl320001_59]); exact (z10LB BK303)⟩, ⟨by (try simp only [hl320001_59]); exact (z10LB BK314)⟩, ⟨by (try simp only [hl320001_59]); exact (z10LB BK319)⟩, ⟨by (try simp only [hl320001_59]); exact (z10LB BK325)⟩, ⟨by (try simp only [hl320001_59]); exact (z10LB BK347)⟩, ⟨by exact (z10HB HB)⟩⟩
            ·replace c125 := Bool.eq_false_iff.mpr c125
             subst c125
             have H1 : (laws_FnExactHarderPuzzle.j2 kj59 t335 true t320 t336) = some r := by rw [if_neg (show ¬ (false = true) by decide)] at H; exact H
             clear H
             have H := H1
             clear H1
             have H' := Aside0.mk H
             clear H
             have hnb136 := NB347_303.out
             have hnc136 := NB303_347.out
             have hnb137 := NB347_314.out
             have hnc137 := NB314_347.out
             have hnb138 := NB347_319.out
             have hnc138 := NB319_347.out
             have hnb139 := NB347_325.out
             have hnc139 := NB325_347.out
             have hcz140_0 : w117.cell? ⟨gb347, 0, none⟩ = some (.int .i64 0) := z10BC BK347 0
             have hcz140_1 : w117.cell? ⟨gb347, 1, none⟩ = some (.slice none 0 0) := z10BC BK347 1
             have hfz140_0 := blk_frozen BK347.out 0
             have hfz140_1 := blk_frozen BK347.out 1
             have hnb141 := NB314_303.out
             have hnc141 := NB303_314.out
             have hnb142 := NB314_319.out
             have hnc142 := NB319_314.out
             have hnb143 := NB314_325.out
             have hnc143 := NB325_314.out
             have hcz144_0 : w117.cell? ⟨gb314, 0, none⟩ = some (.int .i64 t309) := z10BC BK314 0
             have hcz144_1 : w117.cell? ⟨gb314, 1, none⟩ = some (.slice Ao22 t310.length co22) := z10BC BK314 1
             have hfz144_0 := blk_frozen BK314.out 0
             have hfz144_1 := blk_frozen BK314.out 1
             go_wp2_with (first | ((with_reducible refine gate_callee (f := 10) rfl ?_); refine goesL_ (some 81) rfl rfl Try.func10 (by kernel_rfl) rfl #[.agg #[.int .i64 t342, .slice Ao123 t343.length co123], .agg #[.int .i64 t309, .slice Ao22 t310.length co22]] rfl z10AT ?_; (with_reducible refine (laws_eqPuzzle.calls kj59 t342 _ _ t343 t309 _ _ t310 false _ ?side1 ?side2 ?side3 ?side4 A124.out).mono ?_); (case side1 => refine (Kd.R_reads' (e := 55) (base := w.heap.size) (ok := fun k_ => ((((True ∧ some k_ ≠ (.slice Ao22 t310.length co22 : Value).ownBlock) ∧ some k_ ≠ (.slice Ao29 t333.length co29 : Value).ownBlock) ∧ some k_ ≠ (.slice Ao36 t321.length co36 : Value).ownBlock) ∧ some k_ ≠ (.slice Ao115 t339.length co115 : Value).ownBlock)) (n := t343.length) (c := co123) ?_).2.2; exact (by (with_reducible repeat (first | apply Kd.R_alloc | apply Kd.R_drewN | apply Kd.R_drew)); exact (Kd.R_mono (Kd.R_far (p := ⟨gb347, 1, none⟩) (Kd.R_far (p := ⟨gb347, 0, none⟩) (Kd.R_types HO345.out BK347.out (by decide)) (fun _ hk => hk.2) (.int .i64 t342)) (fun _ hk => hk.2) (.slice Ao123 t343.length co123)) (fun _ h_ => h_.1)))); (case side2 => exact (Kd.R_reads' HO345.out).2.1); (case side3 => refine (Kd.R_reads' (e := 55) (base := w.heap.size) (ok := fun k_ => (((some k_ ≠ (.slice Ao29 t333.length co29 : Value).ownBlock ∧ some k_ ≠ (.slice Ao36 t321.length co36 : Value).ownBlock) ∧ some k_ ≠ (.slice Ao115 t339.length co115 : Value).ownBlock) ∧ some k_ ≠ (.slice Ao123 t343.length co123 : Value).ownBlock)) (n := t310.length) (c := co22) ?_).2.2; exact (by (with_reducible repeat (first | apply Kd.R_alloc | apply Kd.R_drewN | apply Kd.R_drew)); exact (Kd.R_mono (Kd.R_far (p := ⟨gb347, 1, none⟩) (Kd.R_far (p := ⟨gb347, 0, none⟩) (Kd.R_types HO_315001.out BK347.out (by decide)) (fun _ hk => hk.2) (.int .i64 t342)) (fun _ hk => hk.2) (.slice Ao123 t343.length co123)) (fun _ h_ => h_.1)))); (case side4 => exact (Kd.R_reads' HO_315001.out).2.1); rintro e w145 ⟨rfl, hb⟩; refine ⟨_, rfl, ?_⟩; have n0_ := Aside0.mk (Kd.R_below (by (with_reducible repeat (first | apply Kd.R_alloc | apply Kd.R_drewN | apply Kd.R_drew)); exact (Kd.R_mono (Kd.R_far (p := ⟨gb347, 1, none⟩) (Kd.R_far (p := ⟨gb347, 0, none⟩) (Kd.R_types HO_315001.out BK347.out (by decide)) (fun _ hk => hk.2) (.int .i64 t342)) (fun _ hk => hk.2) (.slice Ao123 t343.length co123)) (fun _ h_ => h_.1))) hb); have n1_ := Aside0.mk (Kd.R_below (by (with_reducible repeat (first | apply Kd.R_alloc | apply Kd.R_drewN | apply Kd.R_drew)); exact (Kd.R_mono (Kd.R_far (p := ⟨gb347, 1, none⟩) (Kd.R_far (p := ⟨gb347, 0, none⟩) (Kd.R_types HO_320001.out BK347.out (by decide)) (fun _ hk => hk.2) (.int .i64 t342)) (fun _ hk => hk.2) (.slice Ao123 t343.length co123)) (fun _ h_ => h_.1))) hb); have n2_ := Aside0.mk (Kd.R_below (by (with_reducible repeat (first | apply Kd.R_alloc | apply Kd.R_drewN | apply Kd.R_drew)); exact (Kd.R_mono (Kd.R_far (p := ⟨gb347, 1, none⟩) (Kd.R_far (p := ⟨gb347, 0, none⟩) (Kd.R_types HO_326001.out BK347.out (by decide)) (fun _ hk => hk.2) (.int .i64 t342)) (fun _ hk => hk.2) (.slice Ao123 t343.length co123)) (fun _ h_ => h_.1))) hb); have n3_ := Aside0.mk (Kd.R_below (by (with_reducible repeat (first | apply Kd.R_alloc | apply Kd.R_drewN | apply Kd.R_drew)); exact (Kd.R_mono (Kd.R_far (p := ⟨gb347, 1, none⟩) (Kd.R_far (p := ⟨gb347, 0, none⟩) (Kd.R_types HO341.out BK347.out (by decide)) (fun _ hk => hk.2) (.int .i64 t342)) (fun _ hk => hk.2) (.slice Ao123 t343.length co123)) (fun _ h_ => h_.1))) hb); have n4_ := Aside0.mk (Kd.R_below (by (with_reducible repeat (first | apply Kd.R_alloc | apply Kd.R_drewN | apply Kd.R_drew)); exact (Kd.R_mono (Kd.R_far (p := ⟨gb347, 1, none⟩) (Kd.R_far (p := ⟨gb347, 0, none⟩) (Kd.R_types HO345.out BK347.out (by decide)) (fun _ hk => hk.2) (.int .i64 t342)) (fun _ hk => hk.2) (.slice Ao123 t343.length co123)) (fun _ h_ => h_.1))) hb); have n5_ := z10BB BK303 hb; have n6_ := z10BB BK314 hb; have n7_ := z10BB BK319 hb; have n8_ := z10BB BK325 hb; have n9_ := Aside0.mk (blk_below (g := gb347) (o := .cells #[.int .i64 t342, .slice Ao123 t343.length co123] 31 (0, 0)) (by (with_reducible repeat (first | refine blk_drewN ?_ _ | refine blk_drew ?_ | refine blk_alloc ?_ _)); refine blk_put (cs := #[.int .i64 t342, .slice none 0 0]) ?_ 1 _ rfl; (with_reducible repeat (first | refine blk_drewN ?_ _ | refine blk_drew ?_ | refine blk_alloc ?_ _)); refine blk_put (cs := #[.int .i64 0, .slice none 0 0]) ?_ 0 _ rfl; exact (z10LB BK347)) hb); have n10_ := Aside0.mk (below_step (z10HB HB) hb); clear HO_315001; clear HO_320001; clear HO_326001; clear HO341; clear HO345; clear BK303; clear BK314; clear BK319; clear BK325; clear BK347; clear HB; have HO_315001 := n0_; have HO_320001 := n1_; have HO_326001 := n2_; have HO341 := n3_; have HO345 := n4_; have BK303 := n5_; have BK314 := n6_; have BK319 := n7_; have BK325 := n8_; have BK347 := n9_; have HB := n10_; clear n0_ n1_ n2_ n3_ n4_ n5_ n6_ n7_ n8_ n9_ n10_; (try clear hb); (try clear hb2); (try clear hk); (try clear hi)))
             go_meet
             case rel => exact ⟨_, (true), (by first | rfl | (simp; done) | (simp [*]; done)), H', ⟨by have := HJ10.out; have := HJ59.out; first | omega | exact Nat.le_refl _⟩, ⟨by (try simp only [hl320001_59]); (with_reducible repeat (first | apply Kd.R_alloc | apply Kd.R_drewN | apply Kd.R_drew)); exact Kd.R_mono HO_315001.out (fun _ hk => ⟨hk.1.1.1, ⟨hk.1.1.2, hk.2⟩⟩)⟩, ⟨by (try simp only [hl320001_59]); (with_reducible repeat (first | apply Kd.R_alloc | apply Kd.R_drewN | apply Kd.R_drew)); exact Kd.R_mono HO_320001.out (fun _ hk => ⟨hk.1.1.1, ⟨hk.1.1.2, hk.2⟩⟩)⟩, ⟨by (try simp only [hl320001_59]); (with_reducible repeat (first | apply Kd.R_alloc | apply Kd.R_drewN | apply Kd.R_drew)); exact Kd.R_mono HO_326001.out (fun _ hk => ⟨hk.1.1.1, ⟨hk.1.1.2, hk.2⟩⟩)⟩, ⟨by (try simp only [hl320001_59]); (with_reducible repeat (first | apply Kd.R_alloc | apply Kd.R_drewN | apply Kd.R_drew)); exact Kd.R_mono HO345.out (fun _ hk => ⟨hk.1.1.1.2, ⟨hk.1.1.2, hk.1.2⟩⟩)⟩, ⟨by (try simp only [hl320001_59]); exact (z10LB BK303)⟩, ⟨by (try simp only [hl320001_59]); exact (z10LB BK314)⟩, ⟨by (try simp only [hl320001_59]); exact (z10LB BK319)⟩, ⟨by (try simp only [hl320001_59]); exact (z10LB BK325)⟩, ⟨by (try simp only [hl320001_59]); exact (z10LB BK347)⟩, ⟨by exact (z10HB HB)⟩⟩
           case rest =>
            clear HC103
            try clear c1
            try clear c2
            try clear p2
            try clear c3
            try clear c3b0
            try clear c4
            try clear c5
            try clear c6
            try clear c7
            try clear c8
            try clear c9
            try clear c10
            try clear c11
            try clear c12
            try clear c13
            try clear c14
            try clear c15
            try clear c16
            try clear c20
            try clear c26
            try clear c27
            try clear c32
            try clear c33
            try clear c34
            try clear c38
            try clear c39
            try clear c40
            try clear c41
            try clear c43
            try clear c44
            try clear c47
            try clear c48
            try clear c49
            try clear c51
            try clear c52
            try clear c55
            try clear c58
            try clear c65
            try clear c66
            try clear c67
            try clear c70
            try clear c70b0
            try clear c72
            try clear c73
            try clear c74
            try clear c75
            try clear c77
            try clear c78
            try clear c81
            try clear c82
            try clear c83
            try clear c85
            try clear c86
            try clear c89
            try clear c92
            try clear c92b0
            try clear c92b9
            try clear c93
            try clear c94
            try clear c95
            try clear c100
            try clear c100b0
            try clear c100b1
            try clear c100b9
            try clear c104
            try clear c105
            try clear c106
            try clear c111
            try clear c112
            try clear c118
            try clear c119
            try clear c120
            try clear c121
            try clear c125
            try clear c126
            try clear c127
            try clear c128
            try clear c129
            try clear c131
            try clear c132
            try clear c133
            try clear c136
            try clear c137
            try clear c138
            try clear c139
            try clear c141
            try clear c142
            try clear c143
            try clear hcz107_0
            try clear hcz107_1
            try clear hcz109_0
            try clear hcz109_1
            try clear hcz113_0
            try clear hcz113_1
            try clear hcz122_0
            try clear hcz122_1
            try clear hcz130_0
            try clear hcz130_1
            try clear hcz134_0
            try clear hcz134_1
            try clear hcz13_0
            try clear hcz13_1
            try clear hcz140_0
            try clear hcz140_1
            try clear hcz144_0
            try clear hcz144_1
            try clear hcz15_0
            try clear hcz15_1
            try clear hcz21_0
            try clear hcz21_1
            try clear hcz23_0
            try clear hcz23_1
            try clear hcz28_0
            try clear hcz28_1
            try clear hcz35_0
            try clear hcz35_1
            try clear hcz42_0
            try clear hcz42_1
            try clear hcz45_0
            try clear hcz45_1
            try clear hcz50_0
            try clear hcz50_1
            try clear hcz53_0
            try clear hcz53_1
            try clear hcz5_0
            try clear hcz5_1
            try clear hcz68_0
            try clear hcz68_1
            try clear hcz76_0
            try clear hcz76_1
            try clear hcz79_0
            try clear hcz79_1
            try clear hcz84_0
            try clear hcz84_1
            try clear hcz87_0
            try clear hcz87_1
            try clear hcz96_0
            try clear hcz96_1
            try clear hcz98_0
            try clear hcz98_1
            try clear hfz107_0
            try clear hfz107_1
            try clear hfz109_0
            try clear hfz109_1
            try clear hfz113_0
            try clear hfz113_1
            try clear hfz122_0
            try clear hfz122_1
            try clear hfz130_0
            try clear hfz130_1
            try clear hfz134_0
            try clear hfz134_1
            try clear hfz13_0
            try clear hfz13_1
            try clear hfz140_0
            try clear hfz140_1
            try clear hfz144_0
            try clear hfz144_1
            try clear hfz15_0
            try clear hfz15_1
            try clear hfz21_0
            try clear hfz21_1
            try clear hfz23_0
            try clear hfz23_1
            try clear hfz28_0
            try clear hfz28_1
            try clear hfz35_0
            try clear hfz35_1
            try clear hfz42_0
            try clear hfz42_1
            try clear hfz45_0
            try clear hfz45_1
            try clear hfz50_0
            try clear hfz50_1
            try clear hfz53_0
            try clear hfz53_1
            try clear hfz5_0
            try clear hfz5_1
            try clear hfz68_0
            try clear hfz68_1
            try clear hfz76_0
            try clear hfz76_1
            try clear hfz79_0
            try clear hfz79_1
            try clear hfz84_0
            try clear hfz84_1
            try clear hfz87_0
            try clear hfz87_1
            try clear hfz96_0
            try clear hfz96_1
            try clear hfz98_0
            try clear hfz98_1
            try clear p2
            obtain ⟨kq, x87_102, rfl, HA, HJ102, HO_315001, HO_320001, HO_326001, HO_348001, BK303, BK314, BK319, BK325, BK347, HB⟩ := hcut
            have hl326001_102 := (Kd.R_reads' HO_326001.out).1
            rw [hl326001_102] at HO_326001
            (try simp only [hl326001_102])
            (try simp only [hl326001_102] at BK303)
            (try simp only [hl326001_102] at BK314)
            (try simp only [hl326001_102] at BK319)
            (try simp only [hl326001_102] at BK325)
            (try simp only [hl326001_102] at BK347)
            (try simp only [hl326001_102] at HO_315001)
            (try simp only [hl326001_102] at HO_320001)
            (try simp only [hl326001_102] at HO_348001)
            cases kq with
            | zero => exact absurd HA.out (by simp [laws_FnExactHarderPuzzle.j2])
            | succ kj102 =>
             have H := HA.out
             clear HA
             simp only [laws_FnExactHarderPuzzle.j2] at H
             by_cases c146 : x87_102 = true
             ·subst c146
              have H1 : (some false) = some r := by rw [if_pos rfl] at H; exact H
              clear H
              have H := H1
              clear H1
              obtain rfl := Option.some.inj H
              go_wp2
              go_ret
              exact ⟨by first | rfl | (simp [errW_none, errW_some] <;> rfl) | (simp [*, errW_none, errW_some] <;> rfl), by exact (z10HB HB)⟩
             ·replace c146 := Bool.eq_false_iff.mpr c146
              subst c146
              have H1 : ((laws_heldPuzzle.f kj102 t320 t336 1).bind fun t349 => (if t349 < 0 then (some false) else (if t349 = t335 then (some true) else (some false)))) = some r := by rw [if_neg (show ¬ (false = true) by decide)] at H; exact H
              clear H
              have H := H1
              clear H1
              replace H := Option.bind_eq_some_iff.mp H
              obtain ⟨t349, A1470, H⟩ := H
              replace H : (if t349 < 0 then (some false) else (if t349 = t335 then (some true) else (some false))) = some r := H
              have A147 := Aside0.mk A1470
              clear A1470
              by_cases c148 : t349 < 0
              ·rw [if_pos c148] at H
               have c148b0 : decide (t349 < 0) = true := decide_eq_true c148
               (try (have c148b9 := c148b0; simp only [hl320001_59, hl326001_102] at c148b9))
               clear c148
               obtain rfl := Option.some.inj H
               have hnb149 := NB325_303.out
               have hnc149 := NB303_325.out
               have hnb150 := NB325_314.out
               have hnc150 := NB314_325.out
               have hnb151 := NB325_319.out
               have hnc151 := NB319_325.out
               have hnb152 := NB325_347.out
               have hnc152 := NB347_325.out
               have hcz153_0 : wc.cell? ⟨gb325, 0, none⟩ = some (.int .i64 t320) := z10BC BK325 0
               have hcz153_1 : wc.cell? ⟨gb325, 1, none⟩ = some (.slice Ao36 t336.length co36) := z10BC BK325 1
               have hfz153_0 := blk_frozen BK325.out 0
               have hfz153_1 := blk_frozen BK325.out 1
               go_wp2_with (first | ((with_reducible refine gate_callee (f := 16) rfl ?_); refine goesL_ (some 90) rfl rfl Try.func16 (by kernel_rfl) rfl #[.agg #[.int .i64 t320, .slice Ao36 t336.length co36], .int .i64 1] rfl z10AT ?_; (with_reducible refine (laws_heldPuzzle.calls kj102 t320 _ _ t336 1 t349 _ ?side1 ?side2 A147.out).mono ?_); (case side1 => repeat (first | exact (Kd.R_reads' HO_326001.out).2.2 | (with_reducible refine Kd.C_alloc ?_ _) | (with_reducible refine Kd.C_drewN ?_ _) | (with_reducible refine Kd.C_drew ?_))); (case side2 => exact (Kd.R_reads' HO_326001.out).2.1); rintro e w154 ⟨rfl, hb⟩; refine ⟨_, rfl, ?_⟩; have n0_ := Aside0.mk (Kd.R_below (z10R HO_315001) hb); have n1_ := Aside0.mk (Kd.R_below (z10R HO_320001) hb); have n2_ := Aside0.mk (Kd.R_below (z10R HO_326001) hb); have n3_ := Aside0.mk (Kd.R_below (z10R HO_348001) hb); have n4_ := z10BB BK303 hb; have n5_ := z10BB BK314 hb; have n6_ := z10BB BK319 hb; have n7_ := z10BB BK325 hb; have n8_ := z10BB BK347 hb; have n9_ := Aside0.mk (below_step (z10HB HB) hb); clear HO_315001; clear HO_320001; clear HO_326001; clear HO_348001; clear BK303; clear BK314; clear BK319; clear BK325; clear BK347; clear HB; have HO_315001 := n0_; have HO_320001 := n1_; have HO_326001 := n2_; have HO_348001 := n3_; have BK303 := n4_; have BK314 := n5_; have BK319 := n6_; have BK325 := n7_; have BK347 := n8_; have HB := n9_; clear n0_ n1_ n2_ n3_ n4_ n5_ n6_ n7_ n8_ n9_; (try clear hb); (try clear hb2); (try clear hk); (try clear hi)))
               go_ret
               exact ⟨by first | rfl | (simp [errW_none, errW_some] <;> rfl) | (simp [*, errW_none, errW_some] <;> rfl), by exact (z10HB HB)⟩
              ·rw [if_neg c148] at H
               have c148b0 : decide (t349 < 0) = false := decide_eq_false c148
               (try (have c148b9 := c148b0; simp only [hl320001_59, hl326001_102] at c148b9))
               clear c148
               by_cases c155 : t349 = t335
               ·rw [if_pos c155] at H
                have c155b0 : (t349 == t335) = true := beq_iff_eq.mpr c155
                have c155b1 : (t349 != t335) = false := bne_eq_false_iff_eq.mpr c155
                (try (have c155b9 := c155b0; simp only [hl320001_59, hl326001_102] at c155b9))
                clear c155
                obtain rfl := Option.some.inj H
                have hnb156 := NB325_303.out
                have hnc156 := NB303_325.out
                have hnb157 := NB325_314.out
                have hnc157 := NB314_325.out
                have hnb158 := NB325_319.out
                have hnc158 := NB319_325.out
                have hnb159 := NB325_347.out
                have hnc159 := NB347_325.out
                have hcz160_0 : wc.cell? ⟨gb325, 0, none⟩ = some (.int .i64 t320) := z10BC BK325 0
                have hcz160_1 : wc.cell? ⟨gb325, 1, none⟩ = some (.slice Ao36 t336.length co36) := z10BC BK325 1
                have hfz160_0 := blk_frozen BK325.out 0
                have hfz160_1 := blk_frozen BK325.out 1
                go_wp2_with (first | ((with_reducible refine gate_callee (f := 16) rfl ?_); refine goesL_ (some 90) rfl rfl Try.func16 (by kernel_rfl) rfl #[.agg #[.int .i64 t320, .slice Ao36 t336.length co36], .int .i64 1] rfl z10AT ?_; (with_reducible refine (laws_heldPuzzle.calls kj102 t320 _ _ t336 1 t349 _ ?side1 ?side2 A147.out).mono ?_); (case side1 => repeat (first | exact (Kd.R_reads' HO_326001.out).2.2 | (with_reducible refine Kd.C_alloc ?_ _) | (with_reducible refine Kd.C_drewN ?_ _) | (with_reducible refine Kd.C_drew ?_))); (case side2 => exact (Kd.R_reads' HO_326001.out).2.1); rintro e w161 ⟨rfl, hb⟩; refine ⟨_, rfl, ?_⟩; have n0_ := Aside0.mk (Kd.R_below (z10R HO_315001) hb); have n1_ := Aside0.mk (Kd.R_below (z10R HO_320001) hb); have n2_ := Aside0.mk (Kd.R_below (z10R HO_326001) hb); have n3_ := Aside0.mk (Kd.R_below (z10R HO_348001) hb); have n4_ := z10BB BK303 hb; have n5_ := z10BB BK314 hb; have n6_ := z10BB BK319 hb; have n7_ := z10BB BK325 hb; have n8_ := z10BB BK347 hb; have n9_ := Aside0.mk (below_step (z10HB HB) hb); clear HO_315001; clear HO_320001; clear HO_326001; clear HO_348001; clear BK303; clear BK314; clear BK319; clear BK325; clear BK347; clear HB; have HO_315001 := n0_; have HO_320001 := n1_; have HO_326001 := n2_; have HO_348001 := n3_; have BK303 := n4_; have BK314 := n5_; have BK319 := n6_; have BK325 := n7_; have BK347 := n8_; have HB := n9_; clear n0_ n1_ n2_ n3_ n4_ n5_ n6_ n7_ n8_ n9_; (try clear hb); (try clear hb2); (try clear hk); (try clear hi)))
                go_ret
                exact ⟨by first | rfl | (simp [errW_none, errW_some] <;> rfl) | (simp [*, errW_none, errW_some] <;> rfl), by exact (z10HB HB)⟩
               ·rw [if_neg c155] at H
                have c155b0 : (t349 == t335) = false := beq_eq_false_iff_ne.mpr c155
                have c155b1 : (t349 != t335) = true := bne_iff_ne.mpr c155
                (try (have c155b9 := c155b0; simp only [hl320001_59, hl326001_102] at c155b9))
                obtain rfl := Option.some.inj H
                have hnb162 := NB325_303.out
                have hnc162 := NB303_325.out
                have hnb163 := NB325_314.out
                have hnc163 := NB314_325.out
                have hnb164 := NB325_319.out
                have hnc164 := NB319_325.out
                have hnb165 := NB325_347.out
                have hnc165 := NB347_325.out
                have hcz166_0 : wc.cell? ⟨gb325, 0, none⟩ = some (.int .i64 t320) := z10BC BK325 0
                have hcz166_1 : wc.cell? ⟨gb325, 1, none⟩ = some (.slice Ao36 t336.length co36) := z10BC BK325 1
                have hfz166_0 := blk_frozen BK325.out 0
                have hfz166_1 := blk_frozen BK325.out 1
                go_wp2_with (first | ((with_reducible refine gate_callee (f := 16) rfl ?_); refine goesL_ (some 90) rfl rfl Try.func16 (by kernel_rfl) rfl #[.agg #[.int .i64 t320, .slice Ao36 t336.length co36], .int .i64 1] rfl z10AT ?_; (with_reducible refine (laws_heldPuzzle.calls kj102 t320 _ _ t336 1 t349 _ ?side1 ?side2 A147.out).mono ?_); (case side1 => repeat (first | exact (Kd.R_reads' HO_326001.out).2.2 | (with_reducible refine Kd.C_alloc ?_ _) | (with_reducible refine Kd.C_drewN ?_ _) | (with_reducible refine Kd.C_drew ?_))); (case side2 => exact (Kd.R_reads' HO_326001.out).2.1); rintro e w167 ⟨rfl, hb⟩; refine ⟨_, rfl, ?_⟩; have n0_ := Aside0.mk (Kd.R_below (z10R HO_315001) hb); have n1_ := Aside0.mk (Kd.R_below (z10R HO_320001) hb); have n2_ := Aside0.mk (Kd.R_below (z10R HO_326001) hb); have n3_ := Aside0.mk (Kd.R_below (z10R HO_348001) hb); have n4_ := z10BB BK303 hb; have n5_ := z10BB BK314 hb; have n6_ := z10BB BK319 hb; have n7_ := z10BB BK325 hb; have n8_ := z10BB BK347 hb; have n9_ := Aside0.mk (below_step (z10HB HB) hb); clear HO_315001; clear HO_320001; clear HO_326001; clear HO_348001; clear BK303; clear BK314; clear BK319; clear BK325; clear BK347; clear HB; have HO_315001 := n0_; have HO_320001 := n1_; have HO_326001 := n2_; have HO_348001 := n3_; have BK303 := n4_; have BK314 := n5_; have BK319 := n6_; have BK325 := n7_; have BK347 := n8_; have HB := n9_; clear n0_ n1_ n2_ n3_ n4_ n5_ n6_ n7_ n8_ n9_; (try clear hb); (try clear hb2); (try clear hk); (try clear hi)))
                go_ret
                exact ⟨by first | rfl | (simp [errW_none, errW_some] <;> rfl) | (simp [*, errW_none, errW_some] <;> rfl), by exact (z10HB HB)⟩
          ·rw [if_neg c100] at H
           have c100b0 : (t337 == t335) = false := beq_eq_false_iff_ne.mpr c100
           have c100b1 : (t337 != t335) = true := bne_iff_ne.mpr c100
           (try (have c100b9 := c100b0; simp only [hl320001_59] at c100b9))
           obtain rfl := Option.some.inj H
           have hnb168 := NB325_303.out
           have hnc168 := NB303_325.out
           have hnb169 := NB325_314.out
           have hnc169 := NB314_325.out
           have hnb170 := NB325_319.out
           have hnc170 := NB319_325.out
           have hcz171_0 : wc.cell? ⟨gb325, 0, none⟩ = some (.int .i64 t320) := z10BC BK325 0
           have hcz171_1 : wc.cell? ⟨gb325, 1, none⟩ = some (.slice Ao36 t321.length co36) := z10BC BK325 1
           have hfz171_0 := blk_frozen BK325.out 0
           have hfz171_1 := blk_frozen BK325.out 1
           go_wp2_with (first | ((with_reducible refine gate_callee (f := 11) rfl ?_); refine goesL_ (some 64) rfl rfl Try.func11 (by kernel_rfl) rfl #[.agg #[.int .i64 t320, .slice Ao36 t321.length co36], .int .i64 1] rfl z10AT ?_; (with_reducible refine (laws_markPuzzle.calls kj59 t320 (fun k_ => some k_ = (.slice Ao36 t321.length co36 : Value).ownBlock) (.slice Ao36 t321.length co36) t321 1 t335 t336 w _ ?side1 ?side2 A90.out).mono ?_); (case side1 => exact (z10HB HB)); (case side2 => exact Kd.R_tight rfl HO_326001.out); rintro e w172 ⟨rfl, hy0, hb, hkp⟩; refine ⟨_, rfl, ?_⟩; have n0_ := Aside0.mk (Kd.R_mono (ok' := fun k_ => some k_ ≠ (.slice Ao29 t333.length co29 : Value).ownBlock ∧ some k_ ≠ (.slice Ao36 t321.length co36 : Value).ownBlock) (Kd.R_keptB (HO_315001.out) hkp (fun k_ hk_ hs_ => (hk_.2) hs_)) (fun k_ hk_ => ⟨hk_.1.1, hk_.1.2⟩)); have n1_ := Aside0.mk (Kd.R_mono (ok' := fun k_ => some k_ ≠ (.slice Ao22 t310.length co22 : Value).ownBlock ∧ some k_ ≠ (.slice Ao36 t321.length co36 : Value).ownBlock) (Kd.R_keptB (HO_320001.out) hkp (fun k_ hk_ hs_ => (hk_.2) hs_)) (fun k_ hk_ => ⟨hk_.1.1, hk_.1.2⟩)); have n2_ := Aside0.mk (Kd.R_reok rfl hy0 (fun k_ e_ => HO_326001.out.1 k_ e_)); have n3_ := Aside0.mk (blk_kept (z10LB BK303) hkp (fun hs_ => (fun e_ => (Kd.R_ne HO_326001.out BK303.out (by decide)) e_) hs_)); have n4_ := Aside0.mk (blk_kept (z10LB BK314) hkp (fun hs_ => (fun e_ => (Kd.R_ne HO_326001.out BK314.out (by decide)) e_) hs_)); have n5_ := Aside0.mk (blk_kept (z10LB BK319) hkp (fun hs_ => (fun e_ => (Kd.R_ne HO_326001.out BK319.out (by decide)) e_) hs_)); have n6_ := Aside0.mk (blk_kept (z10LB BK325) hkp (fun hs_ => (fun e_ => (Kd.R_ne HO_326001.out BK325.out (by decide)) e_) hs_)); have n7_ := Aside0.mk (hb); clear HO_315001; clear HO_320001; clear HO_326001; clear BK303; clear BK314; clear BK319; clear BK325; clear HB; have HO_315001 := n0_; have HO_320001 := n1_; have HO_326001 := n2_; have BK303 := n3_; have BK314 := n4_; have BK319 := n5_; have BK325 := n6_; have HB := n7_; clear n0_ n1_ n2_ n3_ n4_ n5_ n6_ n7_; (try clear hb); (try clear hkp); (try clear hy0); have hcz173_0 : w172.cell? ⟨gb325, 0, none⟩ = some (.int .i64 t320) := z10BC BK325 0; have hcz173_1 : w172.cell? ⟨gb325, 1, none⟩ = some (.slice Ao36 t321.length co36) := z10BC BK325 1; have hfz173_0 := blk_frozen BK325.out 0; have hfz173_1 := blk_frozen BK325.out 1) | ((with_reducible refine gate_callee (f := 16) rfl ?_); refine goesL_ (some 67) rfl rfl Try.func16 (by kernel_rfl) rfl #[.agg #[.int .i64 t320, .slice Ao36 t336.length co36], .int .i64 1] rfl (by (try simp only [List.map_toArray, List.map_cons, List.map_nil]); first | done | (rw [show t336.length = t321.length from (Kd.R_reads' HO_326001.out).1.symm] <;> rfl) | rfl | (simp only [List.length_drop, List.length_take]; rfl)) ?_; (with_reducible refine (laws_heldPuzzle.calls kj59 t320 _ _ t336 1 t337 _ ?side1 ?side2 A91.out).mono ?_); (case side1 => repeat (first | exact (Kd.R_reads' HO_326001.out).2.2 | (with_reducible refine Kd.C_alloc ?_ _) | (with_reducible refine Kd.C_drewN ?_ _) | (with_reducible refine Kd.C_drew ?_))); (case side2 => rw [show t336.length = t321.length from (Kd.R_reads' HO_326001.out).1.symm]; exact (Kd.R_reads' HO_326001.out).2.1); rintro e w174 ⟨rfl, hb⟩; refine ⟨_, rfl, ?_⟩; have n0_ := Aside0.mk (Kd.R_below (z10R HO_315001) hb); have n1_ := Aside0.mk (Kd.R_below (z10R HO_320001) hb); have n2_ := Aside0.mk (Kd.R_below (z10R HO_326001) hb); have n3_ := z10BB BK303 hb; have n4_ := z10BB BK314 hb; have n5_ := z10BB BK319 hb; have n6_ := z10BB BK325 hb; have n7_ := Aside0.mk (below_step (z10HB HB) hb); clear HO_315001; clear HO_320001; clear HO_326001; clear BK303; clear BK314; clear BK319; clear BK325; clear HB; have HO_315001 := n0_; have HO_320001 := n1_; have HO_326001 := n2_; have BK303 := n3_; have BK314 := n4_; have BK319 := n5_; have BK325 := n6_; have HB := n7_; clear n0_ n1_ n2_ n3_ n4_ n5_ n6_ n7_; (try clear hb); (try clear hb2); (try clear hk); (try clear hi)))
           go_ret
           exact ⟨by first | rfl | (simp [errW_none, errW_some] <;> rfl) | (simp [*, errW_none, errW_some] <;> rfl), by exact (z10HB HB)⟩
     ·replace c58 := Bool.eq_false_iff.mpr c58
      subst c58
      have H1 : (some false) = some r := by rw [if_neg (show ¬ (false = true) by decide)] at H; exact H
      clear H
      have H := H1
      clear H1
      obtain rfl := Option.some.inj H
      try go_wp2
      have n0_ := Aside0.mk (Kd.R_drew HO_315001.out)
      have n1_ := Aside0.mk (Kd.R_drew HO_320001.out)
      have n2_ := Aside0.mk (Kd.R_drew HO_326001.out)
      have n3_ := Aside0.mk (blk_drew BK303.out)
      have n4_ := Aside0.mk (blk_drew BK314.out)
      have n5_ := Aside0.mk (blk_drew BK319.out)
      have n6_ := Aside0.mk (blk_drew BK325.out)
      have n7_ := Aside0.mk (below_drew1 HB.out)
      clear HO_315001 HO_320001 HO_326001 BK303 BK314 BK319 BK325 HB
      have HO_315001 := n0_
      have HO_320001 := n1_
      have HO_326001 := n2_
      have BK303 := n3_
      have BK314 := n4_
      have BK319 := n5_
      have BK325 := n6_
      have HB := n7_
      clear n0_ n1_ n2_ n3_ n4_ n5_ n6_ n7_
      refine start_ (n := 5) (S := fun w' => w'.cell? ⟨gb319, 0, none⟩ = some (.int .i64 t315) ∧ w'.cell? ⟨gb319, 1, none⟩ = some (.slice Ao29 t316.length co29) ∧ w'.cell? ⟨gb303, 0, none⟩ = some (.int .i64 a0_0) ∧ w'.cell? ⟨gb303, 1, none⟩ = some (.slice A0_1 l0_1.length c0_1)) (ds := []) #[false, false, false, false, false] (by kernel_rfl) rfl rfl ⟨z10BC BK319 0, z10BC BK319 1, z10BC BK303 0, z10BC BK303 1⟩ (fun hHeld => ?_)
      generalize wc.drew = w175 at HO_315001 HO_320001 HO_326001 BK303 BK314 BK319 BK325 HB hHeld ⊢
      refine take_ (i := 0) (N := some 41) (v := ?_) (a' := ?_) #[true, false, false, false, false] rfl rfl (by kernel_rfl) (fun _ _ _ h => h) (Or.inl ⟨by rfl, ?_⟩) hHeld ?_ ?_
      rotate_left
      ·rintro w' ⟨s0, s1, s2, s3⟩
       go_simp
       with_reducible rfl
      rotate_left
      ·simp only [Act.put, List.setIfInBounds_toArray, List.set_cons_zero, List.set_cons_succ, i64_w, i32_w]
       rfl
      refine take_ (i := 1) (N := some 42) (v := ?_) (a' := ?_) #[true, true, false, false, false] rfl rfl (by kernel_rfl) (fun _ _ _ h => h) (Or.inl ⟨by rfl, ?_⟩) hHeld ?_ ?_
      rotate_left
      ·rintro w' ⟨s0, s1, s2, s3⟩
       go_simp
       with_reducible rfl
      rotate_left
      ·simp only [Act.put, List.setIfInBounds_toArray, List.set_cons_zero, List.set_cons_succ, i64_w, i32_w]
       rfl
      refine one_ (i := 2) (N := some 43) #[true, true, true, false, false] rfl rfl (by kernel_rfl) (by decide) (fun K hK => ?_)
      refine goes_ Try.func7 (by kernel_rfl) rfl #[.agg #[.int .i64 a0_0, .slice A0_1 l0_1.length c0_1]] (by rfl) rfl rfl z10AT ?_
      with_reducible refine (laws_toPuzzle.calls kj10 a0_0 _ _ l0_1 t327 t328 _ ?side1 ?side2 A56.out).mono ?_
      (case side1 => repeat (first | exact (Kd.C_below HR0_1.out HB.out) | (with_reducible refine Kd.C_alloc ?_ _) | (with_reducible refine Kd.C_drewN ?_ _) | (with_reducible refine Kd.C_drew ?_)))
      (case side2 => exact HC0_1.out)
      rintro e w176 ⟨v329, rfl, ho0, hb⟩
      refine ⟨_, rfl, ?_⟩
      have n0_ := Aside0.mk (Kd.R_elder' (z10R HO_315001) (Kd.R_base ho0) hb)
      have n1_ := Aside0.mk (Kd.R_elder' (z10R HO_320001) (Kd.R_base ho0) hb)
      have n2_ := Aside0.mk (Kd.R_elder' (z10R HO_326001) (Kd.R_base ho0) hb)
      have n3_ := Aside0.mk (Kd.R_lower (Kd.R_new' (Kd.R_new' (Kd.R_new' ho0 (Kd.R_lt (z10R HO_315001))) (Kd.R_lt (z10R HO_320001))) (Kd.R_lt (z10R HO_326001))) (below_size (z10HB HB)))
      have n4_ := z10BB BK303 hb
      have n5_ := z10BB BK314 hb
      have n6_ := z10BB BK319 hb
      have n7_ := z10BB BK325 hb
      have n8_ := Aside0.mk (below_step (z10HB HB) hb)
      clear HO_315001 HO_320001 HO_326001 BK303 BK314 BK319 BK325 HB
      have HO_315001 := n0_
      have HO_320001 := n1_
      have HO_326001 := n2_
      have HO330 := n3_
      have BK303 := n4_
      have BK314 := n5_
      have BK319 := n6_
      have BK325 := n7_
      have HB := n8_
      clear n0_ n1_ n2_ n3_ n4_ n5_ n6_ n7_ n8_
      (try clear hb)
      (try clear hb2)
      (try clear hk)
      (try clear hi)
      (try clear ho0)
      obtain ⟨Ao177, co177, eo177⟩ := Kd.R_slice HO330.out
      (first | subst eo177 | (injection eo177 with f1_ f2_ f3_; have f4_ := f1_.symm; have f5_ := f3_.symm; clear f1_ f2_ f3_; subst f4_; subst f5_))
      refine hK.out _ _ ⟨z10BC BK319 0, z10BC BK319 1, z10BC BK303 0, z10BC BK303 1⟩ (fun hHeld => ?_)
      clear hK K
      refine norm_ (a' := ?_) ?_ ?_
      rotate_left
      ·show Act.put _ (some 43) _ = _
       simp only [Act.put, List.setIfInBounds_toArray, List.set_cons_zero, List.set_cons_succ, i64_w, i32_w]
       rfl
      refine one_ (i := 3) (N := some 44) #[true, true, true, true, false] rfl rfl (by kernel_rfl) (by decide) (fun K hK => ?_)
      refine goes_ Try.func10 (by kernel_rfl) rfl #[.agg #[.int .i64 t315, .slice Ao29 t316.length co29], .agg #[.int .i64 t327, .slice Ao177 t328.length co177]] (by rfl) rfl rfl z10AT ?_
      with_reducible refine (laws_eqPuzzle.calls kj10 t315 _ _ t316 t327 _ _ t328 false _ ?side1 ?side2 ?side3 ?side4 A57.out).mono ?_
      (case side1 => repeat (first | exact (Kd.R_reads' HO_320001.out).2.2 | (with_reducible refine Kd.C_alloc ?_ _) | (with_reducible refine Kd.C_drewN ?_ _) | (with_reducible refine Kd.C_drew ?_)))
      (case side2 => exact (Kd.R_reads' HO_320001.out).2.1)
      (case side3 => repeat (first | exact (Kd.R_reads' HO330.out).2.2 | (with_reducible refine Kd.C_alloc ?_ _) | (with_reducible refine Kd.C_drewN ?_ _) | (with_reducible refine Kd.C_drew ?_)))
      (case side4 => exact (Kd.R_reads' HO330.out).2.1)
      rintro e w178 ⟨rfl, hb⟩
      refine ⟨_, rfl, ?_⟩
      have n0_ := Aside0.mk (Kd.R_below (z10R HO_315001) hb)
      have n1_ := Aside0.mk (Kd.R_below (z10R HO_320001) hb)
      have n2_ := Aside0.mk (Kd.R_below (z10R HO_326001) hb)
      have n3_ := Aside0.mk (Kd.R_below (z10R HO330) hb)
      have n4_ := z10BB BK303 hb
      have n5_ := z10BB BK314 hb
      have n6_ := z10BB BK319 hb
      have n7_ := z10BB BK325 hb
      have n8_ := Aside0.mk (below_step (z10HB HB) hb)
      clear HO_315001 HO_320001 HO_326001 HO330 BK303 BK314 BK319 BK325 HB
      have HO_315001 := n0_
      have HO_320001 := n1_
      have HO_326001 := n2_
      have HO330 := n3_
      have BK303 := n4_
      have BK314 := n5_
      have BK319 := n6_
      have BK325 := n7_
      have HB := n8_
      clear n0_ n1_ n2_ n3_ n4_ n5_ n6_ n7_ n8_
      (try clear hb)
      (try clear hb2)
      (try clear hk)
      (try clear hi)
      refine hK.out _ _ ⟨z10BC BK319 0, z10BC BK319 1, z10BC BK303 0, z10BC BK303 1⟩ (fun hHeld => ?_)
      clear hK K
      refine norm_ (a' := ?_) ?_ ?_
      rotate_left
      ·show Act.put _ (some 44) _ = _
       simp only [Act.put, List.setIfInBounds_toArray, List.set_cons_zero, List.set_cons_succ, i64_w, i32_w]
       rfl
      refine pure_ (i := 4) (N := some 45) (v := ?_) (a' := ?_) #[true, true, true, true, true] rfl rfl (by kernel_rfl) (fun _ _ _ h => h) (Or.inl ⟨by rfl, ?_⟩) ?_ ?_
      rotate_left
      ·intro w'
       go_simp
       with_reducible rfl
      rotate_left
      ·simp only [Act.put, List.setIfInBounds_toArray, List.set_cons_zero, List.set_cons_succ, i64_w, i32_w]
       rfl
      refine done_ (by kernel_rfl) ?_
      try go_wp2
      go_ret
      exact ⟨by first | rfl | (simp [errW_none, errW_some] <;> rfl) | (simp [*, errW_none, errW_some] <;> rfl), by exact (z10HB HB)⟩

end Go.Proofs.Ytcbpidgjobbhbaa.QFnExactHarderPuzzle
