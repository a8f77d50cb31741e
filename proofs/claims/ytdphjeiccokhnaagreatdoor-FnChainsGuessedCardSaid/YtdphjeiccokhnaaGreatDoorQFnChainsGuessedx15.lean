/- The functions that a law reaches, as plain Lean functions, and their walks. Written by a program of this session, turned out of the kit's print. Conditions: those that each theorem names. -/
import Derived.Test.YtdphjeiccokhnaaGreatDoorMac
import Derived.Test.YtdphjeiccokhnaaGreatDoorQFnChainsGuessedx0
import Derived.Test.YtdphjeiccokhnaaGreatDoorQFnChainsGuessedx7
import Derived.Test.YtdphjeiccokhnaaGreatDoorQFnChainsGuessedx10
import Derived.Test.YtdphjeiccokhnaaGreatDoorQFnChainsGuessedx11
namespace Go.Proofs.YtdphjeiccokhnaaGreatDoor.QFnChainsGuessed
open Go.RowKit Go.Proofs.YtdphjeiccokhnaaGreatDoorW.PrintWords Go.Proofs.YtdphjeiccokhnaaGreatDoorW.PrintLast Go.Proofs.YtdphjeiccokhnaaGreatDoorW.PrintMore Go.Proofs.YtdphjeiccokhnaaGreatDoor.Mac
attribute [local go_sem] max2_int min2_int max_two min_two max_three min_three max_four min_four
attribute [local go_sem] Go.Proofs.YtdphjeiccokhnaaGreatDoor.Kit.isSome_setCell
set_option linter.unusedVariables false
set_option linter.unusedSimpArgs false
def impl_LeftByClues.l0:Nat→List Int→Int→Int→Int→List (S51)→Option (List Int×Bool)
  | 0,_,_,_,_,_=>none
  | k+1,x4,x12,x13,x449000,x449001=>if x13<x12 then (if 0≤x13 then (if x13≤(x449001.length:Int) then ((impl_solutions.f k x449000 (x449001.take (x13:Int).toNat)).bind fun t454=>(if x4.length<17592186044416 then (impl_LeftByClues.l0 k (x4++[(t454.length:Int)]) x12 (wrap64 (x13+1)) x449000 x449001) else (none))) else (none)) else (none)) else (some (x4,true))
def impl_LeftByClues.f (k:Nat) (a0_0:Int) (l0_1:List (S51)):Option (List Int×Bool):=(impl_IsPuzzle.f k a0_0 l0_1).bind fun t449=>(if t449=true then (impl_LeftByClues.l0 k ([]:List Int) (wrap64 ((l0_1.length:Int)+1)) 0 a0_0 l0_1) else (some (([]:List Int),false)))
theorem impl_LeftByClues.mono_l:∀k,(∀y0 y1 y2 y3 y4,LeO (impl_LeftByClues.l0 k y0 y1 y2 y3 y4) (impl_LeftByClues.l0 (k+1) y0 y1 y2 y3 y4))
  | 0=>fun _ _ _ _ _ r h=>by simp [impl_LeftByClues.l0] at h
  | k+1=>by
    have ih0:=impl_LeftByClues.mono_l k
    · intro y0 y1 y2 y3 y4
      unfold impl_LeftByClues.l0
      repeat' first
   | with_reducible first|exact ih0 _ _ _ _ _|exact impl_IsPuzzle.mono _ _ _|exact impl_solutions.mono _ _ _|exact LeO.refl _|exact LeO.none _|refine LeO.ite ?_ ?_|refine LeO.bind ?_ (fun _=>?_)
theorem impl_LeftByClues.mono:∀a0 a1 k,LeO (impl_LeftByClues.f k a0 a1) (impl_LeftByClues.f (k+1) a0 a1):=by
  intro a0 a1 k
  have ih0:=impl_LeftByClues.mono_l k
  unfold impl_LeftByClues.f
  repeat' first
   | with_reducible first|exact ih0 _ _ _ _ _|exact impl_IsPuzzle.mono _ _ _|exact impl_solutions.mono _ _ _|exact LeO.refl _|exact LeO.none _|refine LeO.ite ?_ ?_|refine LeO.bind ?_ (fun _=>?_)
def impl_LeftByClues.T7:Bool×List (List Nat×List Nat):=(true,[([],[]),([],[]),([1],[1]),([],[]),([3],[3]),([],[]),([4,5],[4,5]),([2,6],[2,6]),([7],[7]),([8],[8]),([0,9,7],[0,9]),([10,10,0,1,2,3,4,5,6,7,8,9,10],[0,10])])
def impl_LeftByClues.B7:List Nat:=[0,0,2,0,8,0,56,126,254,510,1023,2047]
theorem impl_LeftByClues.tab7:rtab .any (opsOf Tryz.f18 7)=impl_LeftByClues.T7:=by kernel_rfl
theorem impl_LeftByClues.bits7:waitsOk impl_LeftByClues.T7.2 impl_LeftByClues.B7=true:=by kernel_rfl
set_option maxHeartbeats 8000000 in
set_option maxRecDepth 100000 in
theorem impl_LeftByClues.calls (k:Nat) (a0_0:Int) (A0_1:Option Addr) (c0_1:Nat) (l0_1:List (S51)) (r1:List Int) (r2:Bool) (w:World) (hr0_1:Kd.C k51 w A0_1 l0_1.length l0_1) (hc0_1:l0_1.length≤c0_1) (h:impl_LeftByClues.f k a0_0 l0_1=some (r1,r2)) :
    Calls Tryz.prog 18 #[.agg #[.int .i64 a0_0,.slice A0_1 l0_1.length c0_1]] w fun e w'=>∃v0_:Value,e=.returned (.tuple #[v0_,.bool r2])∧Kd.R (Kd.int .i64) 3 w' w.heap.size (fun _=>True) v0_ r1∧Below w.heap.size w w':=by
 have hu26:=Tryz.underlying26;have HR0_1:=Aside0.mk hr0_1;have HC0_1:=Aside0.mk hc0_1;clear hr0_1 hc0_1;have HB:=qa (Below.refl w.heap.size w);have H:=h;unfold impl_LeftByClues.f at H;clear h;replace H:=zB H;obtain ⟨t1,A2,H⟩:=H;replace H:=zI' H;rcases H with ⟨rfl,H⟩|⟨rfl,H⟩
 ·(try dsimp only at H);simp only [Option.some.injEq,Prod.mk.injEq] at H;obtain ⟨rfl,rfl⟩:=H;go_enter Tryz.func18,Tryz.ntmps18
  go_wp2_with (first|(refine zX (N:=1) (cs:=#[.int .i64 a0_0,.slice A0_1 l0_1.length c0_1]) (t:=26) (h:=?_);intro gb1 hg _ hbox hb;have BK1:=qa hbox;have GE1:=qa (qz3:w.heap.size≤gb1);replace HB:=zs HB hb;clear hb hbox hg;have ⟨_,_,_,_⟩:=zC2 BK1.out)|(refine zL 26 (some 7) Tryz.func26 #[.agg #[.int .i64 a0_0,.slice A0_1 l0_1.length c0_1]] (h:=?_);refine (impl_IsPuzzle.calls k a0_0 _ _ l0_1 false _ qz33 HC0_1.out A2.out).mono ?_;rintro e _ ⟨rfl,hb⟩;refine ⟨_,rfl,?_⟩;replace BK1:=zBb BK1 hb;replace HB:=qa (below_step qz6 hb);clear hb))
  go_ret2;exact ⟨_,qz15,qz24,qz6⟩
 (try dsimp only at H);have H':=Aside0.mk H;clear H;go_enter Tryz.func18,Tryz.ntmps18
 go_wp2_with (first|(refine zX (N:=1) (cs:=#[.int .i64 a0_0,.slice A0_1 l0_1.length c0_1]) (t:=26) (h:=?_);intro gb1 hg _ hbox hb;have BK1:=qa hbox;have GE1:=qa (qz3:w.heap.size≤gb1);replace HB:=zs HB hb;clear hb hbox hg;have ⟨_,_,_,_⟩:=zC2 BK1.out)|(refine zL 26 (some 7) Tryz.func26 #[.agg #[.int .i64 a0_0,.slice A0_1 l0_1.length c0_1]] (h:=?_);refine (impl_IsPuzzle.calls k a0_0 _ _ l0_1 true _ qz33 HC0_1.out A2.out).mono ?_;rintro e _ ⟨rfl,hb⟩;refine ⟨_,rfl,?_⟩;replace BK1:=zBb BK1 hb;replace HB:=qa (below_step qz6 hb);clear hb;have ⟨_,_,_,_⟩:=zC2 BK1.out))
 go_loopg [4,13] k (fun kq v4 v13 w'=>∃(x4_1:List Int) (x13_1:Int),v13=.int .i64 x13_1∧Aside0 (impl_LeftByClues.l0 kq x4_1 (wrap64 ((l0_1.length:Int)+1)) x13_1 a0_0 l0_1=some (r1,r2))∧Aside0 (kq≤k)∧Aside0 (Kd.R (Kd.int .i64) 3 w' w.heap.size (fun _=>True) v4 x4_1)∧Aside0 (w'.heap[gb1]? = some (.cells #[.int .i64 a0_0,(.slice A0_1 l0_1.length c0_1)] 26 (0,0)))∧Aside0 (Below w.heap.size w w'))
 case atStart=>exact ⟨(([]:List Int)),(0),qz23,H',⟨Nat.le_refl _⟩,⟨qz24⟩,⟨qz8⟩,⟨qz6⟩⟩
 case round=>
  clear H';obtain ⟨x4_1,x13_1,rfl,HA,HK1,HO_4,BK1,HB⟩:=hrel
  cases gk with
  | zero=>exact absurd HA.out (by simp [impl_LeftByClues.l0])
  | succ k1=>
   have H:=HA.out;clear HA;simp only [impl_LeftByClues.l0] at H;replace H:=zD' H;rcases H with ⟨c8b0,H⟩|⟨c8b0,H⟩
   ·simp only [Option.some.injEq,Prod.mk.injEq] at H;obtain ⟨rfl,rfl⟩:=H;go_wp2;go_ret2;exact ⟨_,qz15,qz63,qz6⟩
   replace H:=zEg' H;obtain ⟨c9,c9b0,c9b1,H⟩:=H;clear c9;replace H:=zEg' H;obtain ⟨c10,c10b0,c10b1,H⟩:=H;clear c10;obtain ⟨y1,hy1⟩:∃y_:List (S51),y_=(l0_1.take (x13_1:Int).toNat):=⟨_,rfl⟩;replace H:((impl_solutions.f k1 a0_0 y1).bind fun t2=>(if x4_1.length<17592186044416 then (impl_LeftByClues.l0 k1 (x4_1++[(t2.length:Int)]) (wrap64 ((l0_1.length:Int)+1)) (wrap64 (x13_1+1)) a0_0 l0_1) else (none)))=some (r1,r2):=by first|(rw [hy1];with_reducible exact H)|(have H2_:=(Option.bind_some _ _).symm.trans H;rw [hy1];with_reducible exact H2_)|(have H2_:=(Option.bind_some _ _).symm.trans H;with_reducible exact H2_)|with_reducible exact H|(rw [hy1];exact H)|exact H
   have Ny1:=Aside0.mk hy1;clear hy1;replace H:=zB H;obtain ⟨t2,A11,H⟩:=H;replace H:=zAg' H;obtain ⟨LMc12,H⟩:=H;obtain ⟨y2,hy2⟩:∃y_:List Int,y_=(x4_1++[(t2.length:Int)]):=⟨_,rfl⟩;replace H:(impl_LeftByClues.l0 k1 y2 (wrap64 ((l0_1.length:Int)+1)) (wrap64 (x13_1+1)) a0_0 l0_1)=some (r1,r2):=by first|(rw [hy2];with_reducible exact H)|(have H2_:=(Option.bind_some _ _).symm.trans H;rw [hy2];with_reducible exact H2_)|(have H2_:=(Option.bind_some _ _).symm.trans H;with_reducible exact H2_)|with_reducible exact H|(rw [hy2];exact H)|exact H
   have Ny2:=Aside0.mk hy2;clear hy2;have H':=Aside0.mk H;clear H;(try go_wp2);replace HO_4:=zRd HO_4;replace BK1:=zBd BK1;replace HB:=zHd HB;have q14:(x13_1:Int)≤((l0_1.length:Int):Int):=of_decide_eq_true qz38;obtain ⟨i014,hi014,_,hsz14,_⟩:=info_parts info51;have hroom14:l0_1.length≤c0_1:=HC0_1.out;have hC14:Kd.C k51 _ A0_1 l0_1.length l0_1:=HR0_1.out;have hcut14:=cut_to (P:=Tryz.prog) 24 51 .i64 Tryz.underlying24 hi014 A0_1 l0_1.length c0_1 x13_1 (of_decide_eq_true qz38) q14 hroom14;have hr14:=Kd.C_take (m:=(x13_1:Int).toNat) hC14 (by omega);have hy3:y1.length=(x13_1:Int).toNat:=(by rw [Ny1.out,List.length_take];omega);rw [← Ny1.out] at hr14;rw [← hy3] at hcut14;have HR453:=Aside0.mk hr14;have HC453:=qa (show y1.length≤c0_1 from by omega);clear hr14 hC14 hroom14 hi014 hsz14
   have KY14:=Aside0.mk hy3;clear hy3;replace q14:=eq_true q14;refine start_ (n:=12) (S:=fun w'=>w'.cell? ⟨gb1,0,none⟩=some (.int .i64 a0_0)∧w'.cell? ⟨gb1,1,none⟩=some (.slice A0_1 l0_1.length c0_1)) (ds:=[]) (bq 0 0 0 12) qz2 rfl rfl qz62 (fun hHeld=>?_);refine with_tabW impl_LeftByClues.tab7 impl_LeftByClues.bits7 (fun HT_ HW_=>?_);generalize wr.drew=w13 at HO_4 BK1 HB HR453 hHeld ⊢;refine zrp 0 16 (h:=?_);refine znp (h:=?_);refine zrp 3 19 (h:=?_);refine zrp 5 21 (h:=?_);refine zrt2 2 18 (h:=?_);refine zrt2 4 20 (h:=?_);refine zrp 6 22 (h:=?_);refine zO (i:=7) (N:=some 23) (bq 8 24 255 12) (h:=fun K hK=>?_);refine goes_ Tryz.func37 qz2 rfl #[.int .i64 a0_0,.slice A0_1 y1.length c0_1] (by rfl) rfl rfl qz60 ?_
   refine (impl_solutions.calls k1 a0_0 _ _ y1 t2 _ (by repeat (first|exact (Kd.C_below HR453.out HB.out)|(with_reducible refine Kd.C_alloc ?_ _)|(with_reducible refine Kd.C_drewN ?_ _)|(with_reducible refine Kd.C_drew ?_))) HC453.out A11.out).mono ?_;rintro e _ ⟨v455,rfl,ho0,hb⟩;refine ⟨_,rfl,?_⟩;replace HO_4:=qa (Kd.R_below qz63 hb);have HO1:=qa (Kd.R_lower ho0 (below_size qz6));replace BK1:=zBb BK1 hb;replace HB:=qa (below_step qz6 hb);(try clear hb);(try clear hb2)
   (try clear hk);(try clear hi);(try clear ho0);obtain ⟨Ao16,co16,eo16⟩:=Kd.R_slice HO1.out;(first|subst eo16|(injection eo16 with f1_ f2_ f3_;have f4_:=f1_.symm;have f5_:=f3_.symm;clear f1_ f2_ f3_;subst f4_;subst f5_));refine hK.out _ _ qz62 (fun hHeld=>?_);clear hK K;refine zW (h:=?_);refine znp (h:=?_);refine zO (i:=9) (N:=some 25) (bq 10 26 1023 12) (h:=fun K hK=>?_);refine value_ (w1:=?_) (v:=?_) (by rfl) rfl ?_ ?_;rotate_left 2
   ·go_simp;constructor
    ·rfl
    rfl
   refine hK.out _ _ qz75 (fun hHeld=>?_);clear hK K;refine zW (h:=?_);refine zO (i:=10) (N:=some 26) (bq 11 27 2047 12) (h:=fun K hK=>?_);refine Kd.R_append_step (Kd.int .i64) (w0:=w) w.heap.size (by rfl) (.tmp 16) (.tmp 25) 41 3 (.int .i64 0) 8 rfl Tryz.underlying41 info3 rfl (by decide) (by omega) u4 x4_1 (t2.length:Int) [.int .i64 (t2.length:Int)] (fun _=>True) (fun _=>False) rfl rfl ?aP (fun _ hk=>hk.elim) ?aF ?aO ?aB ?aS ?aL ?_;(case aP=>exact rfl);(case aB=>exact qz30);(case aF=>exact qz67);(case aO=>exact qz74)
   (case aS=>exact qz31);(case aL=>have:=LMc12.out;omega);intro v458 w17 ho hb hg hat;rw [← Ny2.out] at ho;replace BK1:=qa (blk_grown (g:=gb1) (o:=.cells #[.int .i64 a0_0,.slice A0_1 l0_1.length c0_1] 26 (0,0)) qz8 hg (Kd.R_ne HO_4.out BK1.out (by decide)));replace HO1:=qa (Kd.R_over' qz34 (Kd.R_typed qz63) (by decide) hg);replace HB:=qa hb;have HO2:=qa ho;clear HO_4;clear ho hb hg hat;refine hK.out _ _ qz62 (fun hHeld=>?_)
   clear hK K;refine zW (h:=?_);refine zrp 11 4 (h:=?_);refine done_ (done_of HT_.out qz2) ?_;(try go_wp2);go_roundg k1
   case measure=>have:=HK1.out;omega
   case rel=>exact ⟨(y2),(wrap64 (x13_1+1)),qz23,H',⟨qz55⟩,⟨qz65⟩,⟨qz8⟩,⟨qz6⟩⟩
def spec_LeftByClues.l0:Nat→List Int→Int→Int→List (S51)→Option (List Int×Bool)
  | 0,_,_,_,_=>none
  | k+1,x4,x5,x461000,x461001=>if x5≤(x461001.length:Int) then (if 0≤x5 then ((spec_pzAll.f k x461000 (x461001.take (x5:Int).toNat)).bind fun t466=>(if x4.length<17592186044416 then (spec_LeftByClues.l0 k (x4++[(t466.length:Int)]) (wrap64 (x5+1)) x461000 x461001) else (none))) else (none)) else (some (x4,true))
def spec_LeftByClues.f (k:Nat) (a0_0:Int) (l0_1:List (S51)):Option (List Int×Bool):=(spec_pzGood.f k a0_0 l0_1).bind fun t461=>(if t461=true then (spec_LeftByClues.l0 k ([]:List Int) 0 a0_0 l0_1) else (some (([]:List Int),false)))
theorem spec_LeftByClues.mono_l:∀k,(∀y0 y1 y2 y3,LeO (spec_LeftByClues.l0 k y0 y1 y2 y3) (spec_LeftByClues.l0 (k+1) y0 y1 y2 y3))
  | 0=>fun _ _ _ _ r h=>by simp [spec_LeftByClues.l0] at h
  | k+1=>by
    have ih0:=spec_LeftByClues.mono_l k
    · intro y0 y1 y2 y3
      unfold spec_LeftByClues.l0
      repeat' first
   | with_reducible first|exact ih0 _ _ _ _|exact spec_pzAll.mono _ _ _|exact spec_pzGood.mono _ _ _|exact LeO.refl _|exact LeO.none _|refine LeO.ite ?_ ?_|refine LeO.bind ?_ (fun _=>?_)
theorem spec_LeftByClues.mono:∀a0 a1 k,LeO (spec_LeftByClues.f k a0 a1) (spec_LeftByClues.f (k+1) a0 a1):=by
  intro a0 a1 k
  have ih0:=spec_LeftByClues.mono_l k
  unfold spec_LeftByClues.f
  repeat' first
   | with_reducible first|exact ih0 _ _ _ _|exact spec_pzAll.mono _ _ _|exact spec_pzGood.mono _ _ _|exact LeO.refl _|exact LeO.none _|refine LeO.ite ?_ ?_|refine LeO.bind ?_ (fun _=>?_)
def spec_LeftByClues.T7:Bool×List (List Nat×List Nat):=(true,[([],[]),([],[]),([1],[1]),([],[]),([3],[3]),([],[]),([4,5],[4,5]),([2,6],[2,6]),([7],[7]),([8],[8]),([0,9,7],[0,9]),([10,10,0,1,2,3,4,5,6,7,8,9,10],[0,10])])
def spec_LeftByClues.B7:List Nat:=[0,0,2,0,8,0,56,126,254,510,1023,2047]
theorem spec_LeftByClues.tab7:rtab .any (opsOf Tryz.f19 7)=spec_LeftByClues.T7:=by kernel_rfl
theorem spec_LeftByClues.bits7:waitsOk spec_LeftByClues.T7.2 spec_LeftByClues.B7=true:=by kernel_rfl
set_option maxHeartbeats 8000000 in
set_option maxRecDepth 100000 in
theorem spec_LeftByClues.calls (k:Nat) (a0_0:Int) (A0_1:Option Addr) (c0_1:Nat) (l0_1:List (S51)) (r1:List Int) (r2:Bool) (w:World) (hr0_1:Kd.C k51 w A0_1 l0_1.length l0_1) (hc0_1:l0_1.length≤c0_1) (h:spec_LeftByClues.f k a0_0 l0_1=some (r1,r2)) :
    Calls Tryz.prog 19 #[.agg #[.int .i64 a0_0,.slice A0_1 l0_1.length c0_1]] w fun e w'=>∃v0_:Value,e=.returned (.tuple #[v0_,.bool r2])∧Kd.R (Kd.int .i64) 3 w' w.heap.size (fun _=>True) v0_ r1∧Below w.heap.size w w':=by
 have hu26:=Tryz.underlying26;have HR0_1:=Aside0.mk hr0_1;have HC0_1:=Aside0.mk hc0_1;clear hr0_1 hc0_1;have HB:=qa (Below.refl w.heap.size w);have H:=h;unfold spec_LeftByClues.f at H;clear h;replace H:=zB H;obtain ⟨t1,A2,H⟩:=H;replace H:=zI' H;rcases H with ⟨rfl,H⟩|⟨rfl,H⟩
 ·(try dsimp only at H);simp only [Option.some.injEq,Prod.mk.injEq] at H;obtain ⟨rfl,rfl⟩:=H;go_enter Tryz.func19,Tryz.ntmps19
  go_wp2_with (first|(refine zX (N:=1) (cs:=#[.int .i64 a0_0,.slice A0_1 l0_1.length c0_1]) (t:=26) (h:=?_);intro gb1 hg _ hbox hb;have BK1:=qa hbox;have GE1:=qa (qz3:w.heap.size≤gb1);replace HB:=zs HB hb;clear hb hbox hg;have ⟨_,_,_,_⟩:=zC2 BK1.out)|(refine zL 38 (some 7) Tryz.func38 #[.agg #[.int .i64 a0_0,.slice A0_1 l0_1.length c0_1]] (h:=?_);refine (spec_pzGood.calls k a0_0 _ _ l0_1 false _ qz33 HC0_1.out A2.out).mono ?_;rintro e _ ⟨rfl,hb⟩;refine ⟨_,rfl,?_⟩;replace BK1:=zBb BK1 hb;replace HB:=qa (below_step qz6 hb);clear hb))
  go_ret2;exact ⟨_,qz15,qz24,qz6⟩
 (try dsimp only at H);have H':=Aside0.mk H;clear H;go_enter Tryz.func19,Tryz.ntmps19
 go_wp2_with (first|(refine zX (N:=1) (cs:=#[.int .i64 a0_0,.slice A0_1 l0_1.length c0_1]) (t:=26) (h:=?_);intro gb1 hg _ hbox hb;have BK1:=qa hbox;have GE1:=qa (qz3:w.heap.size≤gb1);replace HB:=zs HB hb;clear hb hbox hg;have ⟨_,_,_,_⟩:=zC2 BK1.out)|(refine zL 38 (some 7) Tryz.func38 #[.agg #[.int .i64 a0_0,.slice A0_1 l0_1.length c0_1]] (h:=?_);refine (spec_pzGood.calls k a0_0 _ _ l0_1 true _ qz33 HC0_1.out A2.out).mono ?_;rintro e _ ⟨rfl,hb⟩;refine ⟨_,rfl,?_⟩;replace BK1:=zBb BK1 hb;replace HB:=qa (below_step qz6 hb);clear hb))
 go_loopg [4,5] k (fun kq v4 v5 w'=>∃(x4_1:List Int) (x5_1:Int),v5=.int .i64 x5_1∧Aside0 (spec_LeftByClues.l0 kq x4_1 x5_1 a0_0 l0_1=some (r1,r2))∧Aside0 (kq≤k)∧Aside0 (Kd.R (Kd.int .i64) 3 w' w.heap.size (fun _=>True) v4 x4_1)∧Aside0 (w'.heap[gb1]? = some (.cells #[.int .i64 a0_0,(.slice A0_1 l0_1.length c0_1)] 26 (0,0)))∧Aside0 (Below w.heap.size w w'))
 case atStart=>exact ⟨(([]:List Int)),(0),qz23,H',⟨Nat.le_refl _⟩,⟨qz24⟩,⟨qz8⟩,⟨qz6⟩⟩
 case round=>
  clear H';obtain ⟨x4_1,x5_1,rfl,HA,HK1,HO_4,BK1,HB⟩:=hrel
  cases gk with
  | zero=>exact absurd HA.out (by simp [spec_LeftByClues.l0])
  | succ k1=>
   have H:=HA.out;clear HA;simp only [spec_LeftByClues.l0] at H;replace H:=zD' H;rcases H with ⟨c7b0,H⟩|⟨c7b0,H⟩
   ·simp only [Option.some.injEq,Prod.mk.injEq] at H;obtain ⟨rfl,rfl⟩:=H;have ⟨_,_,_,_⟩:=zC2 BK1.out;go_wp2;go_ret2;exact ⟨_,qz15,qz63,qz6⟩
   replace H:=zEg' H;obtain ⟨c8,c8b0,c8b1,H⟩:=H;clear c8;have c9b0:=eq_true (of_decide_eq_true qz38:x5_1≤(l0_1.length:Int));obtain ⟨y1,hy1⟩:∃y_:List (S51),y_=(l0_1.take (x5_1:Int).toNat):=⟨_,rfl⟩;replace H:((spec_pzAll.f k1 a0_0 y1).bind fun t2=>(if x4_1.length<17592186044416 then (spec_LeftByClues.l0 k1 (x4_1++[(t2.length:Int)]) (wrap64 (x5_1+1)) a0_0 l0_1) else (none)))=some (r1,r2):=by first|(rw [hy1];with_reducible exact H)|(have H2_:=(Option.bind_some _ _).symm.trans H;rw [hy1];with_reducible exact H2_)|(have H2_:=(Option.bind_some _ _).symm.trans H;with_reducible exact H2_)|with_reducible exact H|(rw [hy1];exact H)|exact H
   have Ny1:=Aside0.mk hy1;clear hy1;replace H:=zB H;obtain ⟨t2,A10,H⟩:=H;replace H:=zAg' H;obtain ⟨LMc11,H⟩:=H;obtain ⟨y2,hy2⟩:∃y_:List Int,y_=(x4_1++[(t2.length:Int)]):=⟨_,rfl⟩;replace H:(spec_LeftByClues.l0 k1 y2 (wrap64 (x5_1+1)) a0_0 l0_1)=some (r1,r2):=by first|(rw [hy2];with_reducible exact H)|(have H2_:=(Option.bind_some _ _).symm.trans H;rw [hy2];with_reducible exact H2_)|(have H2_:=(Option.bind_some _ _).symm.trans H;with_reducible exact H2_)|with_reducible exact H|(rw [hy2];exact H)|exact H
   have Ny2:=Aside0.mk hy2;clear hy2;have H':=Aside0.mk H;clear H;have ⟨_,_,_,_⟩:=zC2 BK1.out;(try go_wp2);replace HO_4:=zRd HO_4;replace BK1:=zBd BK1;replace HB:=zHd HB;have q14:(x5_1:Int)≤((l0_1.length:Int):Int):=of_decide_eq_true qz38;obtain ⟨i014,hi014,_,hsz14,_⟩:=info_parts info51;have hroom14:l0_1.length≤c0_1:=HC0_1.out;have hC14:Kd.C k51 _ A0_1 l0_1.length l0_1:=HR0_1.out;have hcut14:=cut_to (P:=Tryz.prog) 24 51 .i64 Tryz.underlying24 hi014 A0_1 l0_1.length c0_1 x5_1 (of_decide_eq_true qz38) q14 hroom14;have hr14:=Kd.C_take (m:=(x5_1:Int).toNat) hC14 (by omega);have hy3:y1.length=(x5_1:Int).toNat:=(by rw [Ny1.out,List.length_take];omega);rw [← Ny1.out] at hr14;rw [← hy3] at hcut14;have HR465:=Aside0.mk hr14;have HC465:=qa (show y1.length≤c0_1 from by omega)
   clear hr14 hC14 hroom14 hi014 hsz14;have KY14:=Aside0.mk hy3;clear hy3;replace q14:=eq_true q14;refine start_ (n:=12) (S:=fun w'=>w'.cell? ⟨gb1,0,none⟩=some (.int .i64 a0_0)∧w'.cell? ⟨gb1,1,none⟩=some (.slice A0_1 l0_1.length c0_1)) (ds:=[]) (bq 0 0 0 12) qz2 rfl rfl qz62 (fun hHeld=>?_);refine with_tabW spec_LeftByClues.tab7 spec_LeftByClues.bits7 (fun HT_ HW_=>?_);generalize wr.drew=w13 at HO_4 BK1 HB HR465 hHeld ⊢;refine zrp 0 16 (h:=?_);refine znp (h:=?_);refine zrp 3 19 (h:=?_);refine zrp 5 21 (h:=?_);refine zrt2 2 18 (h:=?_);refine zrt2 4 20 (h:=?_);refine zrp 6 22 (h:=?_);refine zO (i:=7) (N:=some 23) (bq 8 24 255 12) (h:=fun K hK=>?_);refine goes_ Tryz.func39 qz2 rfl #[.int .i64 a0_0,.slice A0_1 y1.length c0_1] (by rfl) rfl rfl qz60 ?_
   refine (spec_pzAll.calls k1 a0_0 _ _ y1 t2 _ (by repeat (first|exact (Kd.C_below HR465.out HB.out)|(with_reducible refine Kd.C_alloc ?_ _)|(with_reducible refine Kd.C_drewN ?_ _)|(with_reducible refine Kd.C_drew ?_))) HC465.out A10.out).mono ?_;rintro e _ ⟨v467,rfl,ho0,hb⟩;refine ⟨_,rfl,?_⟩;replace HO_4:=qa (Kd.R_below qz63 hb);have HO1:=qa (Kd.R_lower ho0 (below_size qz6));replace BK1:=zBb BK1 hb;replace HB:=qa (below_step qz6 hb);(try clear hb);(try clear hb2)
   (try clear hk);(try clear hi);(try clear ho0);obtain ⟨Ao16,co16,eo16⟩:=Kd.R_slice HO1.out;(first|subst eo16|(injection eo16 with f1_ f2_ f3_;have f4_:=f1_.symm;have f5_:=f3_.symm;clear f1_ f2_ f3_;subst f4_;subst f5_));refine hK.out _ _ qz62 (fun hHeld=>?_);clear hK K;refine zW (h:=?_);refine znp (h:=?_);refine zO (i:=9) (N:=some 25) (bq 10 26 1023 12) (h:=fun K hK=>?_);refine value_ (w1:=?_) (v:=?_) (by rfl) rfl ?_ ?_;rotate_left 2
   ·go_simp;constructor
    ·rfl
    rfl
   refine hK.out _ _ qz75 (fun hHeld=>?_);clear hK K;refine zW (h:=?_);refine zO (i:=10) (N:=some 26) (bq 11 27 2047 12) (h:=fun K hK=>?_);refine Kd.R_append_step (Kd.int .i64) (w0:=w) w.heap.size (by rfl) (.tmp 16) (.tmp 25) 41 3 (.int .i64 0) 8 rfl Tryz.underlying41 info3 rfl (by decide) (by omega) u4 x4_1 (t2.length:Int) [.int .i64 (t2.length:Int)] (fun _=>True) (fun _=>False) rfl rfl ?aP (fun _ hk=>hk.elim) ?aF ?aO ?aB ?aS ?aL ?_;(case aP=>exact rfl);(case aB=>exact qz30);(case aF=>exact qz67);(case aO=>exact qz74)
   (case aS=>exact qz31);(case aL=>have:=LMc11.out;omega);intro v470 w17 ho hb hg hat;rw [← Ny2.out] at ho;replace BK1:=qa (blk_grown (g:=gb1) (o:=.cells #[.int .i64 a0_0,.slice A0_1 l0_1.length c0_1] 26 (0,0)) qz8 hg (Kd.R_ne HO_4.out BK1.out (by decide)));replace HO1:=qa (Kd.R_over' qz34 (Kd.R_typed qz63) (by decide) hg);replace HB:=qa hb;have HO2:=qa ho;clear HO_4;clear ho hb hg hat;refine hK.out _ _ qz62 (fun hHeld=>?_)
   clear hK K;refine zW (h:=?_);refine zrp 11 4 (h:=?_);refine done_ (done_of HT_.out qz2) ?_;(try go_wp2);go_roundg k1
   case measure=>have:=HK1.out;omega
   case rel=>exact ⟨(y2),(wrap64 (x5_1+1)),qz23,H',⟨qz55⟩,⟨qz65⟩,⟨qz8⟩,⟨qz6⟩⟩
end Go.Proofs.YtdphjeiccokhnaaGreatDoor.QFnChainsGuessed
