/- The functions that a law reaches, as plain Lean functions, and their walks. Written by a program of this session, turned out of the kit's print. Conditions: those that each theorem names. -/
import Derived.Test.YtdphjeiccokhnaaGreatDoorMac
import Derived.Lib.AppendZeros
import Derived.Test.YtdphjeiccokhnaaGreatDoorQFnChainsGuessedx0
import Derived.Test.YtdphjeiccokhnaaGreatDoorQFnChainsGuessedx10
import Derived.Test.YtdphjeiccokhnaaGreatDoorQFnChainsGuessedx11
namespace Go.Proofs.YtdphjeiccokhnaaGreatDoor.QFnChainsGuessed
open Go.RowKit Go.Proofs.YtdphjeiccokhnaaGreatDoorW.PrintWords Go.Proofs.YtdphjeiccokhnaaGreatDoorW.PrintLast Go.Proofs.YtdphjeiccokhnaaGreatDoorW.PrintMore Go.Proofs.YtdphjeiccokhnaaGreatDoor.Mac
attribute [local go_sem] max2_int min2_int max_two min_two max_three min_three max_four min_four
attribute [local go_sem] Go.Proofs.YtdphjeiccokhnaaGreatDoor.Kit.isSome_setCell
set_option linter.unusedVariables false
set_option linter.unusedSimpArgs false
def spec_FirstSolution.f (k:Nat) (a0_0:Int) (l0_1:List (S51)):Option (Int×Int×Int×Bool):=(spec_pzGood.f k a0_0 l0_1).bind fun t358=>(if t358=true then ((spec_pzAll.f k a0_0 l0_1).bind fun t359=>(if (t359.length:Int)=0 then (some (0,0,0,false)) else (if 0<(t359.length:Int) then (some ((rd_T34 t359 0).f0,(rd_T34 t359 0).f1,(rd_T34 t359 0).f2,true)) else (none)))) else (some (0,0,0,false)))
theorem spec_FirstSolution.mono:∀a0 a1 k,LeO (spec_FirstSolution.f k a0 a1) (spec_FirstSolution.f (k+1) a0 a1):=by
  intro a0 a1 k
  unfold spec_FirstSolution.f
  repeat' first
   | with_reducible first|exact spec_pzAll.mono _ _ _|exact spec_pzGood.mono _ _ _|exact LeO.refl _|exact LeO.none _|refine LeO.ite ?_ ?_|refine LeO.bind ?_ (fun _=>?_)
set_option maxHeartbeats 8000000 in
set_option maxRecDepth 100000 in
theorem spec_FirstSolution.calls (k:Nat) (a0_0:Int) (A0_1:Option Addr) (c0_1:Nat) (l0_1:List (S51)) (r1:Int) (r2:Int) (r3:Int) (r4:Bool) (w:World) (hr0_1:Kd.C k51 w A0_1 l0_1.length l0_1) (hc0_1:l0_1.length≤c0_1) (h:spec_FirstSolution.f k a0_0 l0_1=some (r1,r2,r3,r4)) :
    Calls Tryz.prog 11 #[.agg #[.int .i64 a0_0,.slice A0_1 l0_1.length c0_1]] w fun e w'=>e=.returned (.tuple #[.agg #[.int .i64 r1,.int .i64 r2,.int .i64 r3],.bool r4])∧Below w.heap.size w w':=by
 have hu26:=Tryz.underlying26;have hu34:=Tryz.underlying34;have HR0_1:=Aside0.mk hr0_1;have HC0_1:=Aside0.mk hc0_1;clear hr0_1 hc0_1;have HB:=qa (Below.refl w.heap.size w);have H:=h;unfold spec_FirstSolution.f at H;clear h;replace H:=zB H;obtain ⟨t1,A2,H⟩:=H;replace H:=zI' H;rcases H with ⟨rfl,H⟩|⟨rfl,H⟩
 ·(try dsimp only at H);simp only [Option.some.injEq,Prod.mk.injEq] at H;obtain ⟨rfl,rfl,rfl,rfl⟩:=H;go_enter Tryz.func11,Tryz.ntmps11
  go_wp2_with (first|(refine zX (N:=1) (cs:=#[.int .i64 a0_0,.slice A0_1 l0_1.length c0_1]) (t:=26) (h:=?_);intro gb1 hg _ hbox hb;have BK1:=qa hbox;have GE1:=qa (qz3:w.heap.size≤gb1);replace HB:=zs HB hb;clear hb hbox hg)|(refine zX (N:=2) (cs:=#[.int .i64 0,.int .i64 0,.int .i64 0]) (t:=34) (h:=?_);intro gb2 hg _ hbox hb;have BK2:=qa hbox;have GE2:=qa (qz5:w.heap.size≤gb2);replace HB:=qa (below_step qz6 hb);have NB1_2:=qa (qz50:gb1≠gb2);have NB2_1:=qa (qz51:gb2≠gb1);replace BK1:=zBb BK1 hb;clear hb hbox hg;have hnb27:=NB1_2.out;have hnc27:=NB2_1.out;have ⟨_,_,_,_⟩:=zC2 BK1.out)|(refine zL 38 (some 6) Tryz.func38 #[.agg #[.int .i64 a0_0,.slice A0_1 l0_1.length c0_1]] (h:=?_);refine (spec_pzGood.calls k a0_0 _ _ l0_1 false _ qz33 HC0_1.out A2.out).mono ?_;rintro e _ ⟨rfl,hb⟩;refine ⟨_,rfl,?_⟩;replace BK1:=zBb BK1 hb;replace BK2:=zBb BK2 hb;replace HB:=qa (below_step qz11 hb);clear hb;have ⟨_,_,_,_,_,_⟩:=zC3 BK2.out))
  refine bodyPost_ret (results_ct rfl _ _ gb2 34 #[.int .i64 0,.int .i64 0,.int .i64 0] (0,0) _ rfl qz52 Tryz.underlying34 rfl qz2) rfl ?_;exact ⟨qz15,qz11⟩
 (try dsimp only at H);replace H:=zB H;obtain ⟨t2,A4,H⟩:=H;replace H:=zS H;rcases H with ⟨c5,H⟩|⟨c5,H⟩
 ·have ⟨c5b0,c5b1⟩:=zEq c5;clear c5;simp only [Option.some.injEq,Prod.mk.injEq] at H;obtain ⟨rfl,rfl,rfl,rfl⟩:=H;go_enter Tryz.func11,Tryz.ntmps11
  go_wp2_with (first|(refine zX (N:=1) (cs:=#[.int .i64 a0_0,.slice A0_1 l0_1.length c0_1]) (t:=26) (h:=?_);intro gb1 hg _ hbox hb;have BK1:=qa hbox;have GE1:=qa (qz3:w.heap.size≤gb1);replace HB:=zs HB hb;clear hb hbox hg)|(refine zX (N:=2) (cs:=#[.int .i64 0,.int .i64 0,.int .i64 0]) (t:=34) (h:=?_);intro gb2 hg _ hbox hb;have BK2:=qa hbox;have GE2:=qa (qz5:w.heap.size≤gb2);replace HB:=qa (below_step qz6 hb);have NB1_2:=qa (qz50:gb1≠gb2);have NB2_1:=qa (qz51:gb2≠gb1);replace BK1:=zBb BK1 hb;clear hb hbox hg;have hnb8:=NB1_2.out;have hnc8:=NB2_1.out;have ⟨_,_,_,_⟩:=zC2 BK1.out)|(refine zL 38 (some 6) Tryz.func38 #[.agg #[.int .i64 a0_0,.slice A0_1 l0_1.length c0_1]] (h:=?_);refine (spec_pzGood.calls k a0_0 _ _ l0_1 true _ qz33 HC0_1.out A2.out).mono ?_;rintro e _ ⟨rfl,hb⟩;refine ⟨_,rfl,?_⟩;replace BK1:=zBb BK1 hb;replace BK2:=zBb BK2 hb;replace HB:=qa (below_step qz11 hb);clear hb;have ⟨_,_,_,_⟩:=zC2 BK1.out)|(refine zL 39 (some 13) Tryz.func39 #[.int .i64 a0_0,.slice A0_1 l0_1.length c0_1] (h:=?_);refine (spec_pzAll.calls k a0_0 _ _ l0_1 t2 _ qz33 HC0_1.out A4.out).mono ?_;rintro e _ ⟨v360,rfl,ho0,hb⟩;refine ⟨_,rfl,?_⟩;have HO1:=qa (Kd.R_lower (Kd.R_newB ho0 (g:=gb2) (o:=.cells #[.int .i64 0,.int .i64 0,.int .i64 0] 34 (0,0)) qz13) (below_size qz11));replace BK1:=zBb BK1 hb;replace BK2:=zBb BK2 hb;replace HB:=qa (below_step qz11 hb);clear hb ho0;obtain ⟨Ao13,co13,eo13⟩:=Kd.R_slice HO1.out;subst eo13;have ⟨_,_,_,_,_,_⟩:=zC3 BK2.out))
  refine bodyPost_ret (results_ct rfl _ _ gb2 34 #[.int .i64 0,.int .i64 0,.int .i64 0] (0,0) _ rfl qz52 Tryz.underlying34 rfl qz2) rfl ?_;exact ⟨qz15,qz11⟩
 have ⟨c5b0,c5b1⟩:=zNe c5;have c5b2:¬(t2=[]):=fun h_=>c5 (by rw [h_];rfl)
 replace H:=zSg' H;obtain ⟨c15,H⟩:=H;have c15b0:=decide_eq_true c15;have c15b1:decide (0<t2.length)=true:=decide_eq_true (by omega);clear c15;simp only [Option.some.injEq,Prod.mk.injEq] at H;obtain ⟨rfl,rfl,rfl,rfl⟩:=H;go_enter Tryz.func11,Tryz.ntmps11
 go_wp2_with (first|(refine zX (N:=1) (cs:=#[.int .i64 a0_0,.slice A0_1 l0_1.length c0_1]) (t:=26) (h:=?_);intro gb1 hg _ hbox hb;have BK1:=qa hbox;have GE1:=qa (qz3:w.heap.size≤gb1);replace HB:=zs HB hb;clear hb hbox hg)|(refine zX (N:=2) (cs:=#[.int .i64 0,.int .i64 0,.int .i64 0]) (t:=34) (h:=?_);intro gb2 hg _ hbox hb;have BK2:=qa hbox;have GE2:=qa (qz5:w.heap.size≤gb2);replace HB:=qa (below_step qz6 hb);have NB1_2:=qa (qz50:gb1≠gb2);have NB2_1:=qa (qz51:gb2≠gb1);replace BK1:=zBb BK1 hb;clear hb hbox hg;have hnb18:=NB1_2.out;have hnc18:=NB2_1.out;have ⟨_,_,_,_⟩:=zC2 BK1.out)|(refine zL 38 (some 6) Tryz.func38 #[.agg #[.int .i64 a0_0,.slice A0_1 l0_1.length c0_1]] (h:=?_);refine (spec_pzGood.calls k a0_0 _ _ l0_1 true _ qz33 HC0_1.out A2.out).mono ?_;rintro e _ ⟨rfl,hb⟩;refine ⟨_,rfl,?_⟩;replace BK1:=zBb BK1 hb;replace BK2:=zBb BK2 hb;replace HB:=qa (below_step qz11 hb);clear hb;have ⟨_,_,_,_⟩:=zC2 BK1.out)|(refine zL 39 (some 13) Tryz.func39 #[.int .i64 a0_0,.slice A0_1 l0_1.length c0_1] (h:=?_);refine (spec_pzAll.calls k a0_0 _ _ l0_1 t2 _ qz33 HC0_1.out A4.out).mono ?_;rintro e _ ⟨v360,rfl,ho0,hb⟩;refine ⟨_,rfl,?_⟩;have HO1:=qa (Kd.R_lower (Kd.R_newB ho0 (g:=gb2) (o:=.cells #[.int .i64 0,.int .i64 0,.int .i64 0] 34 (0,0)) qz13) (below_size qz11));replace BK1:=zBb BK1 hb;replace BK2:=zBb BK2 hb;replace HB:=qa (below_step qz11 hb);clear hb ho0;obtain ⟨Ao23,co23,eo23⟩:=Kd.R_slice HO1.out;subst eo23;have p362:0≤(0:Int):=(by omega);have q362:0<(t2.length:Int):=of_decide_eq_true qz38;obtain ⟨ad362,e362,hx362_0,hx362_1,hx362_2⟩:=at_T34 (Kd.R_reads' HO1.out).2.2 0 p362 q362;cases e362;have qi362:(0<t2.length)=True:=eq_true (by omega);(try rw [show ((0:Int)).toNat=0 from rfl] at hx362_0);(try rw [show 0*3=0 from rfl] at hx362_0);(try rw [Addr.add_zero'] at hx362_0);(try rw [show ((0:Int)).toNat=0 from rfl] at hx362_1);(try rw [show 0*3=0 from rfl] at hx362_1);(try rw [Addr.add_zero'] at hx362_1);(try rw [show ((0:Int)).toNat=0 from rfl] at hx362_2);(try rw [show 0*3=0 from rfl] at hx362_2);(try rw [Addr.add_zero'] at hx362_2);replace p362:=eq_true p362;replace q362:=eq_true q362;have ⟨_,_,_,_,_,_⟩:=zC3 BK2.out))
 refine bodyPost_ret (results_ct rfl _ _ gb2 34 #[.int .i64 ((rd_T34 t2 0).f0),.int .i64 ((rd_T34 t2 0).f1),.int .i64 ((rd_T34 t2 0).f2)] (0,0) _ rfl (by (with_reducible repeat (first|refine blk_drewN ?_ _|refine blk_drew ?_|refine blk_alloc ?_ _));refine blk_put (cs:=#[.int .i64 ((rd_T34 t2 0).f0),.int .i64 ((rd_T34 t2 0).f1),.int .i64 0]) ?_ 2 _ rfl;(with_reducible repeat (first|refine blk_drewN ?_ _|refine blk_drew ?_|refine blk_alloc ?_ _));refine blk_put (cs:=#[.int .i64 ((rd_T34 t2 0).f0),.int .i64 0,.int .i64 0]) ?_ 1 _ rfl;(with_reducible repeat (first|refine blk_drewN ?_ _|refine blk_drew ?_|refine blk_alloc ?_ _));refine blk_put (cs:=#[.int .i64 0,.int .i64 0,.int .i64 0]) ?_ 0 _ rfl;(with_reducible repeat (first|refine blk_drewN ?_ _|refine blk_drew ?_|refine blk_alloc ?_ _));exact BK2.out) Tryz.underlying34 rfl qz2) rfl ?_
 exact ⟨qz15,qz11⟩
def impl_SureChain.l0:Nat→Int→Int→List (S34)→Int→Int→Option (Int×Int×Bool)
  | 0,_,_,_,_,_=>none
  | k+1,x7,x8,x27,x28,x29=>if x29<x28 then (if 0≤x29 then (if x29<(x27.length:Int) then (if ((rd_T34 x27 x29).f0)=x7 then (if ((rd_T34 x27 x29).f1)=x8 then (impl_SureChain.l0 k x7 x8 x27 x28 (wrap64 (x29+1))) else (impl_SureChain.l0 k x7 (-1) x27 x28 (wrap64 (x29+1)))) else (if ((rd_T34 x27 x29).f1)=x8 then (impl_SureChain.l0 k (-1) x8 x27 x28 (wrap64 (x29+1))) else (impl_SureChain.l0 k (-1) (-1) x27 x28 (wrap64 (x29+1))))) else (none)) else (none)) else (some (x7,x8,true))
def impl_SureChain.f (k:Nat) (a0_0:Int) (l0_1:List (S51)):Option (Int×Int×Bool):=(impl_Solutions.f k a0_0 l0_1).bind fun bt364=>(if (bt364.1.length:Int)=0 then (some (0,0,false)) else (if 0<(bt364.1.length:Int) then (impl_SureChain.l0 k ((rd_T34 bt364.1 0).f0) ((rd_T34 bt364.1 0).f1) bt364.1 (bt364.1.length:Int) 0) else (none)))
theorem impl_SureChain.mono_l:∀k,(∀y0 y1 y2 y3 y4,LeO (impl_SureChain.l0 k y0 y1 y2 y3 y4) (impl_SureChain.l0 (k+1) y0 y1 y2 y3 y4))
  | 0=>fun _ _ _ _ _ r h=>by simp [impl_SureChain.l0] at h
  | k+1=>by
    have ih0:=impl_SureChain.mono_l k
    · intro y0 y1 y2 y3 y4
      unfold impl_SureChain.l0
      repeat' first
   | with_reducible first|exact ih0 _ _ _ _ _|exact impl_Solutions.mono _ _ _|exact LeO.refl _|exact LeO.none _|refine LeO.ite ?_ ?_|refine LeO.bind ?_ (fun _=>?_)
theorem impl_SureChain.mono:∀a0 a1 k,LeO (impl_SureChain.f k a0 a1) (impl_SureChain.f (k+1) a0 a1):=by
  intro a0 a1 k
  have ih0:=impl_SureChain.mono_l k
  unfold impl_SureChain.f
  repeat' first
   | with_reducible first|exact ih0 _ _ _ _ _|exact impl_Solutions.mono _ _ _|exact LeO.refl _|exact LeO.none _|refine LeO.ite ?_ ?_|refine LeO.bind ?_ (fun _=>?_)
set_option maxHeartbeats 8000000 in
set_option maxRecDepth 100000 in
theorem impl_SureChain.calls (k:Nat) (a0_0:Int) (A0_1:Option Addr) (c0_1:Nat) (l0_1:List (S51)) (r1:Int) (r2:Int) (r3:Bool) (w:World) (hr0_1:Kd.C k51 w A0_1 l0_1.length l0_1) (hc0_1:l0_1.length≤c0_1) (h:impl_SureChain.f k a0_0 l0_1=some (r1,r2,r3)) :
    Calls Tryz.prog 12 #[.agg #[.int .i64 a0_0,.slice A0_1 l0_1.length c0_1]] w fun e w'=>e=.returned (.tuple #[.int .i64 r1,.int .i64 r2,.bool r3])∧Below w.heap.size w w':=by
 have hu26:=Tryz.underlying26;have hu34:=Tryz.underlying34;have HR0_1:=Aside0.mk hr0_1;have HC0_1:=Aside0.mk hc0_1;clear hr0_1 hc0_1;have HB:=qa (Below.refl w.heap.size w);have H:=h;unfold impl_SureChain.f at H;clear h;replace H:=zB H;obtain ⟨⟨t1,t2⟩,A2,H⟩:=H;(try dsimp only at H);replace H:=zS H;rcases H with ⟨c3,H⟩|⟨c3,H⟩
 ·have ⟨c3b0,c3b1⟩:=zEq c3;clear c3;simp only [Option.some.injEq,Prod.mk.injEq] at H;obtain ⟨rfl,rfl,rfl⟩:=H;go_enter Tryz.func12,Tryz.ntmps12
  go_wp2_with (first|(refine zX (N:=1) (cs:=#[.int .i64 a0_0,.slice A0_1 l0_1.length c0_1]) (t:=26) (h:=?_);intro gb1 hg w4 hbox hb;have BK1:=qa hbox;have GE1:=qa (qz3:w.heap.size≤gb1);replace HB:=zs HB hb;clear hb hbox hg;have ⟨_,_,_,_⟩:=zC2 BK1.out)|(go_at_call 6;(with_reducible refine (impl_Solutions.calls k a0_0 _ _ l0_1 t1 t2 _ ?side1 ?side2 A2.out).mono ?_);(case side1=>exact qz33);(case side2=>exact qz53);rintro e w6 ⟨v365,rfl,ho0,hb⟩;have HO1:=qa (Kd.R_lower ho0 (below_size qz6));replace BK1:=zBb BK1 hb;replace HB:=qa (below_step qz6 hb);clear hb ho0;obtain ⟨Ao7,co7,eo7⟩:=Kd.R_slice HO1.out;subst eo7))
  (repeat (go_quiet (first|(refine zX (N:=1) (cs:=#[.int .i64 a0_0,.slice A0_1 l0_1.length c0_1]) (t:=26) (h:=?_);intro gb1 hg w4 hbox hb;have BK1:=qa hbox;have GE1:=qa (qz3:w.heap.size≤gb1);replace HB:=zs HB hb;clear hb hbox hg;have ⟨_,_,_,_⟩:=zC2 BK1.out)|(go_at_call 6;(with_reducible refine (impl_Solutions.calls k a0_0 _ _ l0_1 t1 t2 _ ?side1 ?side2 A2.out).mono ?_);(case side1=>exact qz33);(case side2=>exact qz53);rintro e w6 ⟨v365,rfl,ho0,hb⟩;have HO1:=qa (Kd.R_lower ho0 (below_size qz6));replace BK1:=zBb BK1 hb;replace HB:=qa (below_step qz6 hb);clear hb ho0;obtain ⟨Ao7,co7,eo7⟩:=Kd.R_slice HO1.out;subst eo7));try go_wp2_with (first|(refine zX (N:=1) (cs:=#[.int .i64 a0_0,.slice A0_1 l0_1.length c0_1]) (t:=26) (h:=?_);intro gb1 hg w4 hbox hb;have BK1:=qa hbox;have GE1:=qa (qz3:w.heap.size≤gb1);replace HB:=zs HB hb;clear hb hbox hg;have ⟨_,_,_,_⟩:=zC2 BK1.out)|(go_at_call 6;(with_reducible refine (impl_Solutions.calls k a0_0 _ _ l0_1 t1 t2 _ ?side1 ?side2 A2.out).mono ?_);(case side1=>exact qz33);(case side2=>exact qz53);rintro e w6 ⟨v365,rfl,ho0,hb⟩;have HO1:=qa (Kd.R_lower ho0 (below_size qz6));replace BK1:=zBb BK1 hb;replace HB:=qa (below_step qz6 hb);clear hb ho0;obtain ⟨Ao7,co7,eo7⟩:=Kd.R_slice HO1.out;subst eo7))))
  go_ret3;exact ⟨qz15,qz6⟩
 have ⟨c3b0,c3b1⟩:=zNe c3;have c3b2:¬(t1=[]):=fun h_=>c3 (by rw [h_];rfl)
 replace H:=zSg' H;obtain ⟨c8,H⟩:=H;have c8b0:=decide_eq_true c8;have c8b1:decide (0<t1.length)=true:=decide_eq_true (by omega);clear c8;have H':=Aside0.mk H;clear H;go_enter Tryz.func12,Tryz.ntmps12
 go_wp2_with (first|(refine zX (N:=1) (cs:=#[.int .i64 a0_0,.slice A0_1 l0_1.length c0_1]) (t:=26) (h:=?_);intro gb1 hg w9 hbox hb;have BK1:=qa hbox;have GE1:=qa (qz3:w.heap.size≤gb1);replace HB:=zs HB hb;clear hb hbox hg;have ⟨_,_,_,_⟩:=zC2 BK1.out)|(go_at_call 6;(with_reducible refine (impl_Solutions.calls k a0_0 _ _ l0_1 t1 t2 _ ?side1 ?side2 A2.out).mono ?_);(case side1=>exact qz33);(case side2=>exact qz53);rintro e w11 ⟨v365,rfl,ho0,hb⟩;have HO1:=qa (Kd.R_lower ho0 (below_size qz6));replace BK1:=zBb BK1 hb;replace HB:=qa (below_step qz6 hb);clear hb ho0;obtain ⟨Ao12,co12,eo12⟩:=Kd.R_slice HO1.out;subst eo12;have p368:0≤(0:Int):=(by omega);have q368:0<(t1.length:Int):=of_decide_eq_true qz38;obtain ⟨ad368,e368,hx368_0,hx368_1,hx368_2⟩:=at_T34 (Kd.R_reads' HO1.out).2.2 0 p368 q368;cases e368;have qi368:(0<t1.length)=True:=eq_true (by omega);(try rw [show ((0:Int)).toNat=0 from rfl] at hx368_0);(try rw [show 0*3=0 from rfl] at hx368_0);(try rw [Addr.add_zero'] at hx368_0);(try rw [show ((0:Int)).toNat=0 from rfl] at hx368_1);(try rw [show 0*3=0 from rfl] at hx368_1);(try rw [Addr.add_zero'] at hx368_1);(try rw [show ((0:Int)).toNat=0 from rfl] at hx368_2);(try rw [show 0*3=0 from rfl] at hx368_2);(try rw [Addr.add_zero'] at hx368_2);replace p368:=eq_true p368;replace q368:=eq_true q368;have p369:0≤(0:Int):=(by omega);have q369:0<(t1.length:Int):=of_decide_eq_true qz38;obtain ⟨ad369,e369,hx369_0,hx369_1,hx369_2⟩:=at_T34 (Kd.R_reads' HO1.out).2.2 0 p369 q369;obtain rfl:ad368=ad369:=(by injection e369);have qi369:(0<t1.length)=True:=eq_true (by omega);(try rw [show ((0:Int)).toNat=0 from rfl] at hx369_0);(try rw [show 0*3=0 from rfl] at hx369_0);(try rw [Addr.add_zero'] at hx369_0);(try rw [show ((0:Int)).toNat=0 from rfl] at hx369_1);(try rw [show 0*3=0 from rfl] at hx369_1);(try rw [Addr.add_zero'] at hx369_1);(try rw [show ((0:Int)).toNat=0 from rfl] at hx369_2);(try rw [show 0*3=0 from rfl] at hx369_2);(try rw [Addr.add_zero'] at hx369_2);replace p369:=eq_true p369;replace q369:=eq_true q369))
 (repeat (go_quiet (first|(refine zX (N:=1) (cs:=#[.int .i64 a0_0,.slice A0_1 l0_1.length c0_1]) (t:=26) (h:=?_);intro gb1 hg w9 hbox hb;have BK1:=qa hbox;have GE1:=qa (qz3:w.heap.size≤gb1);replace HB:=zs HB hb;clear hb hbox hg;have ⟨_,_,_,_⟩:=zC2 BK1.out)|(go_at_call 6;(with_reducible refine (impl_Solutions.calls k a0_0 _ _ l0_1 t1 t2 _ ?side1 ?side2 A2.out).mono ?_);(case side1=>exact qz33);(case side2=>exact qz53);rintro e w11 ⟨v365,rfl,ho0,hb⟩;have HO1:=qa (Kd.R_lower ho0 (below_size qz6));replace BK1:=zBb BK1 hb;replace HB:=qa (below_step qz6 hb);clear hb ho0;obtain ⟨Ao12,co12,eo12⟩:=Kd.R_slice HO1.out;subst eo12;have p368:0≤(0:Int):=(by omega);have q368:0<(t1.length:Int):=of_decide_eq_true qz38;obtain ⟨ad368,e368,hx368_0,hx368_1,hx368_2⟩:=at_T34 (Kd.R_reads' HO1.out).2.2 0 p368 q368;cases e368;have qi368:(0<t1.length)=True:=eq_true (by omega);(try rw [show ((0:Int)).toNat=0 from rfl] at hx368_0);(try rw [show 0*3=0 from rfl] at hx368_0);(try rw [Addr.add_zero'] at hx368_0);(try rw [show ((0:Int)).toNat=0 from rfl] at hx368_1);(try rw [show 0*3=0 from rfl] at hx368_1);(try rw [Addr.add_zero'] at hx368_1);(try rw [show ((0:Int)).toNat=0 from rfl] at hx368_2);(try rw [show 0*3=0 from rfl] at hx368_2);(try rw [Addr.add_zero'] at hx368_2);replace p368:=eq_true p368;replace q368:=eq_true q368;have p369:0≤(0:Int):=(by omega);have q369:0<(t1.length:Int):=of_decide_eq_true qz38;obtain ⟨ad369,e369,hx369_0,hx369_1,hx369_2⟩:=at_T34 (Kd.R_reads' HO1.out).2.2 0 p369 q369;obtain rfl:ad368=ad369:=(by injection e369);have qi369:(0<t1.length)=True:=eq_true (by omega);(try rw [show ((0:Int)).toNat=0 from rfl] at hx369_0);(try rw [show 0*3=0 from rfl] at hx369_0);(try rw [Addr.add_zero'] at hx369_0);(try rw [show ((0:Int)).toNat=0 from rfl] at hx369_1);(try rw [show 0*3=0 from rfl] at hx369_1);(try rw [Addr.add_zero'] at hx369_1);(try rw [show ((0:Int)).toNat=0 from rfl] at hx369_2);(try rw [show 0*3=0 from rfl] at hx369_2);(try rw [Addr.add_zero'] at hx369_2);replace p369:=eq_true p369;replace q369:=eq_true q369));try go_wp2_with (first|(refine zX (N:=1) (cs:=#[.int .i64 a0_0,.slice A0_1 l0_1.length c0_1]) (t:=26) (h:=?_);intro gb1 hg w9 hbox hb;have BK1:=qa hbox;have GE1:=qa (qz3:w.heap.size≤gb1);replace HB:=zs HB hb;clear hb hbox hg;have ⟨_,_,_,_⟩:=zC2 BK1.out)|(go_at_call 6;(with_reducible refine (impl_Solutions.calls k a0_0 _ _ l0_1 t1 t2 _ ?side1 ?side2 A2.out).mono ?_);(case side1=>exact qz33);(case side2=>exact qz53);rintro e w11 ⟨v365,rfl,ho0,hb⟩;have HO1:=qa (Kd.R_lower ho0 (below_size qz6));replace BK1:=zBb BK1 hb;replace HB:=qa (below_step qz6 hb);clear hb ho0;obtain ⟨Ao12,co12,eo12⟩:=Kd.R_slice HO1.out;subst eo12;have p368:0≤(0:Int):=(by omega);have q368:0<(t1.length:Int):=of_decide_eq_true qz38;obtain ⟨ad368,e368,hx368_0,hx368_1,hx368_2⟩:=at_T34 (Kd.R_reads' HO1.out).2.2 0 p368 q368;cases e368;have qi368:(0<t1.length)=True:=eq_true (by omega);(try rw [show ((0:Int)).toNat=0 from rfl] at hx368_0);(try rw [show 0*3=0 from rfl] at hx368_0);(try rw [Addr.add_zero'] at hx368_0);(try rw [show ((0:Int)).toNat=0 from rfl] at hx368_1);(try rw [show 0*3=0 from rfl] at hx368_1);(try rw [Addr.add_zero'] at hx368_1);(try rw [show ((0:Int)).toNat=0 from rfl] at hx368_2);(try rw [show 0*3=0 from rfl] at hx368_2);(try rw [Addr.add_zero'] at hx368_2);replace p368:=eq_true p368;replace q368:=eq_true q368;have p369:0≤(0:Int):=(by omega);have q369:0<(t1.length:Int):=of_decide_eq_true qz38;obtain ⟨ad369,e369,hx369_0,hx369_1,hx369_2⟩:=at_T34 (Kd.R_reads' HO1.out).2.2 0 p369 q369;obtain rfl:ad368=ad369:=(by injection e369);have qi369:(0<t1.length)=True:=eq_true (by omega);(try rw [show ((0:Int)).toNat=0 from rfl] at hx369_0);(try rw [show 0*3=0 from rfl] at hx369_0);(try rw [Addr.add_zero'] at hx369_0);(try rw [show ((0:Int)).toNat=0 from rfl] at hx369_1);(try rw [show 0*3=0 from rfl] at hx369_1);(try rw [Addr.add_zero'] at hx369_1);(try rw [show ((0:Int)).toNat=0 from rfl] at hx369_2);(try rw [show 0*3=0 from rfl] at hx369_2);(try rw [Addr.add_zero'] at hx369_2);replace p369:=eq_true p369;replace q369:=eq_true q369))))
 go_loopg [7,8,29] k (fun kq v7 v8 v29 w'=>∃(x7_1:Int) (x8_1:Int) (x29_1:Int),v7=.int .i64 x7_1∧v8=.int .i64 x8_1∧v29=.int .i64 x29_1∧Aside0 (impl_SureChain.l0 kq x7_1 x8_1 t1 (t1.length:Int) x29_1=some (r1,r2,r3))∧Aside0 (kq≤k)∧Aside0 (Kd.R k34 34 w' w.heap.size (fun _=>True) (.slice (some ad368) t1.length co12) t1)∧Aside0 (w'.heap[gb1]? = some (.cells #[.int .i64 a0_0,(.slice A0_1 l0_1.length c0_1)] 26 (0,0)))∧Aside0 (Below w.heap.size w w'))
 case atStart=>exact ⟨((rd_T34 t1 0).f0),((rd_T34 t1 0).f1),(0),qz23,qz23,qz23,H',⟨Nat.le_refl _⟩,⟨qz34⟩,⟨qz8⟩,⟨qz6⟩⟩
 case round=>
  clear H';obtain ⟨x7_1,x8_1,x29_1,rfl,rfl,rfl,HA,HK1,HO_27,BK1,HB⟩:=hrel
  cases gk with
  | zero=>exact absurd HA.out (by simp [impl_SureChain.l0])
  | succ k1=>
   have H:=HA.out;clear HA;simp only [impl_SureChain.l0] at H;replace H:=zD' H;rcases H with ⟨c13b0,H⟩|⟨c13b0,H⟩
   ·simp only [Option.some.injEq,Prod.mk.injEq] at H;obtain ⟨rfl,rfl,rfl⟩:=H;go_wp2;(repeat (go_quiet (fail);try go_wp2));go_ret3;exact ⟨qz15,qz6⟩
   replace H:=zDg' H;obtain ⟨c14b0,H⟩:=H;replace H:=zDg' H;obtain ⟨c15b0,H⟩:=H;replace H:=zS' H;rcases H with ⟨c16,H⟩|⟨c16,H⟩
   ·have ⟨c16b0,c16b1⟩:=zNe c16;replace H:=zS' H;rcases H with ⟨c24,H⟩|⟨c24,H⟩
    ·have ⟨c24b0,c24b1⟩:=zNe c24;have H':=Aside0.mk H;clear H;have p370:0≤(x29_1:Int):=of_decide_eq_true qz38;have q370:x29_1<(t1.length:Int):=of_decide_eq_true qz38;obtain ⟨ad370,e370,hx370_0,hx370_1,hx370_2⟩:=at_T34 (Kd.R_reads' HO_27.out).2.2 x29_1 p370 q370;obtain rfl:ad368=ad370:=(by injection e370);replace p370:=eq_true p370;replace q370:=eq_true q370
     go_wp2_with (first|(refine zX (N:=10) (cs:=#[.int .i64 0,.int .i64 0,.int .i64 0]) (t:=34) (h:=?_);intro gb2 hg w28 hbox hb;replace HO_27:=qa (Kd.R_below (Kd.R_elderB qz54 gb2 (Nat.le_of_eq hg.symm)) hb);have BK2:=qa hbox;have GE2:=qa (qz5:w.heap.size≤gb2);replace HB:=qa (below_step qz6 hb);have NB1_2:=qa (qz50:gb1≠gb2);have NB2_1:=qa (qz51:gb2≠gb1);replace BK1:=zBb BK1 hb;clear hb hbox hg;have hnb29:=NB2_1.out;have hnc29:=NB1_2.out;have ⟨_,_,_,_,_,_⟩:=zC3 BK2.out))
     (repeat (go_quiet (first|(refine zX (N:=10) (cs:=#[.int .i64 0,.int .i64 0,.int .i64 0]) (t:=34) (h:=?_);intro gb2 hg w28 hbox hb;replace HO_27:=qa (Kd.R_below (Kd.R_elderB qz54 gb2 (Nat.le_of_eq hg.symm)) hb);have BK2:=qa hbox;have GE2:=qa (qz5:w.heap.size≤gb2);replace HB:=qa (below_step qz6 hb);have NB1_2:=qa (qz50:gb1≠gb2);have NB2_1:=qa (qz51:gb2≠gb1);replace BK1:=zBb BK1 hb;clear hb hbox hg;have hnb29:=NB2_1.out;have hnc29:=NB1_2.out;have ⟨_,_,_,_,_,_⟩:=zC3 BK2.out));try go_wp2_with (first|(refine zX (N:=10) (cs:=#[.int .i64 0,.int .i64 0,.int .i64 0]) (t:=34) (h:=?_);intro gb2 hg w28 hbox hb;replace HO_27:=qa (Kd.R_below (Kd.R_elderB qz54 gb2 (Nat.le_of_eq hg.symm)) hb);have BK2:=qa hbox;have GE2:=qa (qz5:w.heap.size≤gb2);replace HB:=qa (below_step qz6 hb);have NB1_2:=qa (qz50:gb1≠gb2);have NB2_1:=qa (qz51:gb2≠gb1);replace BK1:=zBb BK1 hb;clear hb hbox hg;have hnb29:=NB2_1.out;have hnc29:=NB1_2.out;have ⟨_,_,_,_,_,_⟩:=zC3 BK2.out))))
     go_roundg k1
     case measure=>have:=HK1.out;omega
     case rel=>exact ⟨((-1)),((-1)),(wrap64 (x29_1+1)),qz23,qz23,qz23,H',⟨qz55⟩,⟨qz56⟩,⟨qz41⟩,⟨qz11⟩⟩
    have ⟨c24b0,c24b1⟩:=zEq c24;clear c24;have H':=Aside0.mk H;clear H;have p370:0≤(x29_1:Int):=of_decide_eq_true qz38;have q370:x29_1<(t1.length:Int):=of_decide_eq_true qz38;obtain ⟨ad370,e370,hx370_0,hx370_1,hx370_2⟩:=at_T34 (Kd.R_reads' HO_27.out).2.2 x29_1 p370 q370;obtain rfl:ad368=ad370:=(by injection e370);replace p370:=eq_true p370;replace q370:=eq_true q370
    go_wp2_with (first|(refine zX (N:=10) (cs:=#[.int .i64 0,.int .i64 0,.int .i64 0]) (t:=34) (h:=?_);intro gb2 hg w25 hbox hb;replace HO_27:=qa (Kd.R_below (Kd.R_elderB qz54 gb2 (Nat.le_of_eq hg.symm)) hb);have BK2:=qa hbox;have GE2:=qa (qz5:w.heap.size≤gb2);replace HB:=qa (below_step qz6 hb);have NB1_2:=qa (qz50:gb1≠gb2);have NB2_1:=qa (qz51:gb2≠gb1);replace BK1:=zBb BK1 hb;clear hb hbox hg;have hnb26:=NB2_1.out;have hnc26:=NB1_2.out;have ⟨_,_,_,_,_,_⟩:=zC3 BK2.out))
    (repeat (go_quiet (first|(refine zX (N:=10) (cs:=#[.int .i64 0,.int .i64 0,.int .i64 0]) (t:=34) (h:=?_);intro gb2 hg w25 hbox hb;replace HO_27:=qa (Kd.R_below (Kd.R_elderB qz54 gb2 (Nat.le_of_eq hg.symm)) hb);have BK2:=qa hbox;have GE2:=qa (qz5:w.heap.size≤gb2);replace HB:=qa (below_step qz6 hb);have NB1_2:=qa (qz50:gb1≠gb2);have NB2_1:=qa (qz51:gb2≠gb1);replace BK1:=zBb BK1 hb;clear hb hbox hg;have hnb26:=NB2_1.out;have hnc26:=NB1_2.out;have ⟨_,_,_,_,_,_⟩:=zC3 BK2.out));try go_wp2_with (first|(refine zX (N:=10) (cs:=#[.int .i64 0,.int .i64 0,.int .i64 0]) (t:=34) (h:=?_);intro gb2 hg w25 hbox hb;replace HO_27:=qa (Kd.R_below (Kd.R_elderB qz54 gb2 (Nat.le_of_eq hg.symm)) hb);have BK2:=qa hbox;have GE2:=qa (qz5:w.heap.size≤gb2);replace HB:=qa (below_step qz6 hb);have NB1_2:=qa (qz50:gb1≠gb2);have NB2_1:=qa (qz51:gb2≠gb1);replace BK1:=zBb BK1 hb;clear hb hbox hg;have hnb26:=NB2_1.out;have hnc26:=NB1_2.out;have ⟨_,_,_,_,_,_⟩:=zC3 BK2.out))))
    go_roundg k1
    case measure=>have:=HK1.out;omega
    case rel=>exact ⟨((-1)),(x8_1),(wrap64 (x29_1+1)),qz23,qz23,qz23,H',⟨qz55⟩,⟨qz56⟩,⟨qz41⟩,⟨qz11⟩⟩
   have ⟨c16b0,c16b1⟩:=zEq c16;clear c16;replace H:=zS' H;rcases H with ⟨c17,H⟩|⟨c17,H⟩
   ·have ⟨c17b0,c17b1⟩:=zNe c17;have H':=Aside0.mk H;clear H;have p370:0≤(x29_1:Int):=of_decide_eq_true qz38;have q370:x29_1<(t1.length:Int):=of_decide_eq_true qz38;obtain ⟨ad370,e370,hx370_0,hx370_1,hx370_2⟩:=at_T34 (Kd.R_reads' HO_27.out).2.2 x29_1 p370 q370;obtain rfl:ad368=ad370:=(by injection e370);replace p370:=eq_true p370;replace q370:=eq_true q370
    go_wp2_with (first|(refine zX (N:=10) (cs:=#[.int .i64 0,.int .i64 0,.int .i64 0]) (t:=34) (h:=?_);intro gb2 hg w21 hbox hb;replace HO_27:=qa (Kd.R_below (Kd.R_elderB qz54 gb2 (Nat.le_of_eq hg.symm)) hb);have BK2:=qa hbox;have GE2:=qa (qz5:w.heap.size≤gb2);replace HB:=qa (below_step qz6 hb);have NB1_2:=qa (qz50:gb1≠gb2);have NB2_1:=qa (qz51:gb2≠gb1);replace BK1:=zBb BK1 hb;clear hb hbox hg;have hnb22:=NB2_1.out;have hnc22:=NB1_2.out;have ⟨_,_,_,_,_,_⟩:=zC3 BK2.out))
    (repeat (go_quiet (first|(refine zX (N:=10) (cs:=#[.int .i64 0,.int .i64 0,.int .i64 0]) (t:=34) (h:=?_);intro gb2 hg w21 hbox hb;replace HO_27:=qa (Kd.R_below (Kd.R_elderB qz54 gb2 (Nat.le_of_eq hg.symm)) hb);have BK2:=qa hbox;have GE2:=qa (qz5:w.heap.size≤gb2);replace HB:=qa (below_step qz6 hb);have NB1_2:=qa (qz50:gb1≠gb2);have NB2_1:=qa (qz51:gb2≠gb1);replace BK1:=zBb BK1 hb;clear hb hbox hg;have hnb22:=NB2_1.out;have hnc22:=NB1_2.out;have ⟨_,_,_,_,_,_⟩:=zC3 BK2.out));try go_wp2_with (first|(refine zX (N:=10) (cs:=#[.int .i64 0,.int .i64 0,.int .i64 0]) (t:=34) (h:=?_);intro gb2 hg w21 hbox hb;replace HO_27:=qa (Kd.R_below (Kd.R_elderB qz54 gb2 (Nat.le_of_eq hg.symm)) hb);have BK2:=qa hbox;have GE2:=qa (qz5:w.heap.size≤gb2);replace HB:=qa (below_step qz6 hb);have NB1_2:=qa (qz50:gb1≠gb2);have NB2_1:=qa (qz51:gb2≠gb1);replace BK1:=zBb BK1 hb;clear hb hbox hg;have hnb22:=NB2_1.out;have hnc22:=NB1_2.out;have ⟨_,_,_,_,_,_⟩:=zC3 BK2.out))))
    go_roundg k1
    case measure=>have:=HK1.out;omega
    case rel=>exact ⟨(x7_1),((-1)),(wrap64 (x29_1+1)),qz23,qz23,qz23,H',⟨qz55⟩,⟨qz56⟩,⟨qz41⟩,⟨qz11⟩⟩
   have ⟨c17b0,c17b1⟩:=zEq c17;clear c17;have H':=Aside0.mk H;clear H;have p370:0≤(x29_1:Int):=of_decide_eq_true qz38;have q370:x29_1<(t1.length:Int):=of_decide_eq_true qz38;obtain ⟨ad370,e370,hx370_0,hx370_1,hx370_2⟩:=at_T34 (Kd.R_reads' HO_27.out).2.2 x29_1 p370 q370;obtain rfl:ad368=ad370:=(by injection e370);replace p370:=eq_true p370;replace q370:=eq_true q370
   go_wp2_with (first|(refine zX (N:=10) (cs:=#[.int .i64 0,.int .i64 0,.int .i64 0]) (t:=34) (h:=?_);intro gb2 hg w18 hbox hb;replace HO_27:=qa (Kd.R_below (Kd.R_elderB qz54 gb2 (Nat.le_of_eq hg.symm)) hb);have BK2:=qa hbox;have GE2:=qa (qz5:w.heap.size≤gb2);replace HB:=qa (below_step qz6 hb);have NB1_2:=qa (qz50:gb1≠gb2);have NB2_1:=qa (qz51:gb2≠gb1);replace BK1:=zBb BK1 hb;clear hb hbox hg;have hnb19:=NB2_1.out;have hnc19:=NB1_2.out;have ⟨_,_,_,_,_,_⟩:=zC3 BK2.out))
   (repeat (go_quiet (first|(refine zX (N:=10) (cs:=#[.int .i64 0,.int .i64 0,.int .i64 0]) (t:=34) (h:=?_);intro gb2 hg w18 hbox hb;replace HO_27:=qa (Kd.R_below (Kd.R_elderB qz54 gb2 (Nat.le_of_eq hg.symm)) hb);have BK2:=qa hbox;have GE2:=qa (qz5:w.heap.size≤gb2);replace HB:=qa (below_step qz6 hb);have NB1_2:=qa (qz50:gb1≠gb2);have NB2_1:=qa (qz51:gb2≠gb1);replace BK1:=zBb BK1 hb;clear hb hbox hg;have hnb19:=NB2_1.out;have hnc19:=NB1_2.out;have ⟨_,_,_,_,_,_⟩:=zC3 BK2.out));try go_wp2_with (first|(refine zX (N:=10) (cs:=#[.int .i64 0,.int .i64 0,.int .i64 0]) (t:=34) (h:=?_);intro gb2 hg w18 hbox hb;replace HO_27:=qa (Kd.R_below (Kd.R_elderB qz54 gb2 (Nat.le_of_eq hg.symm)) hb);have BK2:=qa hbox;have GE2:=qa (qz5:w.heap.size≤gb2);replace HB:=qa (below_step qz6 hb);have NB1_2:=qa (qz50:gb1≠gb2);have NB2_1:=qa (qz51:gb2≠gb1);replace BK1:=zBb BK1 hb;clear hb hbox hg;have hnb19:=NB2_1.out;have hnc19:=NB1_2.out;have ⟨_,_,_,_,_,_⟩:=zC3 BK2.out))))
   go_roundg k1
   case measure=>have:=HK1.out;omega
   case rel=>exact ⟨(x7_1),(x8_1),(wrap64 (x29_1+1)),qz23,qz23,qz23,H',⟨qz55⟩,⟨qz56⟩,⟨qz41⟩,⟨qz11⟩⟩
def spec_SureChain.l0:Nat→Int→Int→List (S34)→Int→Int→Option (Int×Int×Bool)
  | 0,_,_,_,_,_=>none
  | k+1,x6,x7,x29,x30,x31=>if x31<x30 then (if 0≤x31 then (if x31<(x29.length:Int) then (if ((rd_T34 x29 x31).f0)=x6 then (if ((rd_T34 x29 x31).f1)=x7 then (spec_SureChain.l0 k x6 x7 x29 x30 (wrap64 (x31+1))) else (spec_SureChain.l0 k x6 (-1) x29 x30 (wrap64 (x31+1)))) else (if ((rd_T34 x29 x31).f1)=x7 then (spec_SureChain.l0 k (-1) x7 x29 x30 (wrap64 (x31+1))) else (spec_SureChain.l0 k (-1) (-1) x29 x30 (wrap64 (x31+1))))) else (none)) else (none)) else (some (x6,x7,true))
def spec_SureChain.f (k:Nat) (a0_0:Int) (l0_1:List (S51)):Option (Int×Int×Bool):=(spec_pzGood.f k a0_0 l0_1).bind fun t373=>(if t373=true then ((spec_pzAll.f k a0_0 l0_1).bind fun t374=>(if (t374.length:Int)=0 then (some (0,0,false)) else (if 0<(t374.length:Int) then (spec_SureChain.l0 k ((rd_T34 t374 0).f0) ((rd_T34 t374 0).f1) t374 (t374.length:Int) 0) else (none)))) else (some (0,0,false)))
theorem spec_SureChain.mono_l:∀k,(∀y0 y1 y2 y3 y4,LeO (spec_SureChain.l0 k y0 y1 y2 y3 y4) (spec_SureChain.l0 (k+1) y0 y1 y2 y3 y4))
  | 0=>fun _ _ _ _ _ r h=>by simp [spec_SureChain.l0] at h
  | k+1=>by
    have ih0:=spec_SureChain.mono_l k
    · intro y0 y1 y2 y3 y4
      unfold spec_SureChain.l0
      repeat' first
   | with_reducible first|exact ih0 _ _ _ _ _|exact spec_pzAll.mono _ _ _|exact spec_pzGood.mono _ _ _|exact LeO.refl _|exact LeO.none _|refine LeO.ite ?_ ?_|refine LeO.bind ?_ (fun _=>?_)
theorem spec_SureChain.mono:∀a0 a1 k,LeO (spec_SureChain.f k a0 a1) (spec_SureChain.f (k+1) a0 a1):=by
  intro a0 a1 k
  have ih0:=spec_SureChain.mono_l k
  unfold spec_SureChain.f
  repeat' first
   | with_reducible first|exact ih0 _ _ _ _ _|exact spec_pzAll.mono _ _ _|exact spec_pzGood.mono _ _ _|exact LeO.refl _|exact LeO.none _|refine LeO.ite ?_ ?_|refine LeO.bind ?_ (fun _=>?_)
set_option maxHeartbeats 8000000 in
set_option maxRecDepth 100000 in
theorem spec_SureChain.calls (k:Nat) (a0_0:Int) (A0_1:Option Addr) (c0_1:Nat) (l0_1:List (S51)) (r1:Int) (r2:Int) (r3:Bool) (w:World) (hr0_1:Kd.C k51 w A0_1 l0_1.length l0_1) (hc0_1:l0_1.length≤c0_1) (h:spec_SureChain.f k a0_0 l0_1=some (r1,r2,r3)) :
    Calls Tryz.prog 13 #[.agg #[.int .i64 a0_0,.slice A0_1 l0_1.length c0_1]] w fun e w'=>e=.returned (.tuple #[.int .i64 r1,.int .i64 r2,.bool r3])∧Below w.heap.size w w':=by
 have hu26:=Tryz.underlying26;have hu34:=Tryz.underlying34;have HR0_1:=Aside0.mk hr0_1;have HC0_1:=Aside0.mk hc0_1;clear hr0_1 hc0_1;have HB:=qa (Below.refl w.heap.size w);have H:=h;unfold spec_SureChain.f at H;clear h;replace H:=zB H;obtain ⟨t1,A2,H⟩:=H;replace H:=zI' H;rcases H with ⟨rfl,H⟩|⟨rfl,H⟩
 ·(try dsimp only at H);simp only [Option.some.injEq,Prod.mk.injEq] at H;obtain ⟨rfl,rfl,rfl⟩:=H;go_enter Tryz.func13,Tryz.ntmps13
  go_wp2_with (first|(refine zX (N:=1) (cs:=#[.int .i64 a0_0,.slice A0_1 l0_1.length c0_1]) (t:=26) (h:=?_);intro gb1 hg w37 hbox hb;have BK1:=qa hbox;have GE1:=qa (qz3:w.heap.size≤gb1);replace HB:=zs HB hb;clear hb hbox hg;have ⟨_,_,_,_⟩:=zC2 BK1.out)|(go_at_call 38;(with_reducible refine (spec_pzGood.calls k a0_0 _ _ l0_1 false _ ?side1 ?side2 A2.out).mono ?_);(case side1=>exact qz33);(case side2=>exact qz53);rintro e w39 ⟨rfl,hb⟩;replace BK1:=zBb BK1 hb;replace HB:=qa (below_step qz6 hb);clear hb))
  (repeat (go_quiet (first|(refine zX (N:=1) (cs:=#[.int .i64 a0_0,.slice A0_1 l0_1.length c0_1]) (t:=26) (h:=?_);intro gb1 hg w37 hbox hb;have BK1:=qa hbox;have GE1:=qa (qz3:w.heap.size≤gb1);replace HB:=zs HB hb;clear hb hbox hg;have ⟨_,_,_,_⟩:=zC2 BK1.out)|(go_at_call 38;(with_reducible refine (spec_pzGood.calls k a0_0 _ _ l0_1 false _ ?side1 ?side2 A2.out).mono ?_);(case side1=>exact qz33);(case side2=>exact qz53);rintro e w39 ⟨rfl,hb⟩;replace BK1:=zBb BK1 hb;replace HB:=qa (below_step qz6 hb);clear hb));try go_wp2_with (first|(refine zX (N:=1) (cs:=#[.int .i64 a0_0,.slice A0_1 l0_1.length c0_1]) (t:=26) (h:=?_);intro gb1 hg w37 hbox hb;have BK1:=qa hbox;have GE1:=qa (qz3:w.heap.size≤gb1);replace HB:=zs HB hb;clear hb hbox hg;have ⟨_,_,_,_⟩:=zC2 BK1.out)|(go_at_call 38;(with_reducible refine (spec_pzGood.calls k a0_0 _ _ l0_1 false _ ?side1 ?side2 A2.out).mono ?_);(case side1=>exact qz33);(case side2=>exact qz53);rintro e w39 ⟨rfl,hb⟩;replace BK1:=zBb BK1 hb;replace HB:=qa (below_step qz6 hb);clear hb))))
  go_ret3;exact ⟨qz15,qz6⟩
 (try dsimp only at H);replace H:=zB H;obtain ⟨t2,A4,H⟩:=H;replace H:=zS H;rcases H with ⟨c5,H⟩|⟨c5,H⟩
 ·have ⟨c5b0,c5b1⟩:=zEq c5;clear c5;simp only [Option.some.injEq,Prod.mk.injEq] at H;obtain ⟨rfl,rfl,rfl⟩:=H;go_enter Tryz.func13,Tryz.ntmps13
  go_wp2_with (first|(refine zX (N:=1) (cs:=#[.int .i64 a0_0,.slice A0_1 l0_1.length c0_1]) (t:=26) (h:=?_);intro gb1 hg w6 hbox hb;have BK1:=qa hbox;have GE1:=qa (qz3:w.heap.size≤gb1);replace HB:=zs HB hb;clear hb hbox hg;have ⟨_,_,_,_⟩:=zC2 BK1.out)|(go_at_call 38;(with_reducible refine (spec_pzGood.calls k a0_0 _ _ l0_1 true _ ?side1 ?side2 A2.out).mono ?_);(case side1=>exact qz33);(case side2=>exact qz53);rintro e w8 ⟨rfl,hb⟩;replace BK1:=zBb BK1 hb;replace HB:=qa (below_step qz6 hb);clear hb;have ⟨_,_,_,_⟩:=zC2 BK1.out)|(go_at_call 39;(with_reducible refine (spec_pzAll.calls k a0_0 _ _ l0_1 t2 _ ?side1 ?side2 A4.out).mono ?_);(case side1=>exact qz33);(case side2=>exact qz53);rintro e w10 ⟨v375,rfl,ho0,hb⟩;have HO1:=qa (Kd.R_lower ho0 (below_size qz6));replace BK1:=zBb BK1 hb;replace HB:=qa (below_step qz6 hb);clear hb ho0;obtain ⟨Ao11,co11,eo11⟩:=Kd.R_slice HO1.out;subst eo11))
  (repeat (go_quiet (first|(refine zX (N:=1) (cs:=#[.int .i64 a0_0,.slice A0_1 l0_1.length c0_1]) (t:=26) (h:=?_);intro gb1 hg w6 hbox hb;have BK1:=qa hbox;have GE1:=qa (qz3:w.heap.size≤gb1);replace HB:=zs HB hb;clear hb hbox hg;have ⟨_,_,_,_⟩:=zC2 BK1.out)|(go_at_call 38;(with_reducible refine (spec_pzGood.calls k a0_0 _ _ l0_1 true _ ?side1 ?side2 A2.out).mono ?_);(case side1=>exact qz33);(case side2=>exact qz53);rintro e w8 ⟨rfl,hb⟩;replace BK1:=zBb BK1 hb;replace HB:=qa (below_step qz6 hb);clear hb;have ⟨_,_,_,_⟩:=zC2 BK1.out)|(go_at_call 39;(with_reducible refine (spec_pzAll.calls k a0_0 _ _ l0_1 t2 _ ?side1 ?side2 A4.out).mono ?_);(case side1=>exact qz33);(case side2=>exact qz53);rintro e w10 ⟨v375,rfl,ho0,hb⟩;have HO1:=qa (Kd.R_lower ho0 (below_size qz6));replace BK1:=zBb BK1 hb;replace HB:=qa (below_step qz6 hb);clear hb ho0;obtain ⟨Ao11,co11,eo11⟩:=Kd.R_slice HO1.out;subst eo11));try go_wp2_with (first|(refine zX (N:=1) (cs:=#[.int .i64 a0_0,.slice A0_1 l0_1.length c0_1]) (t:=26) (h:=?_);intro gb1 hg w6 hbox hb;have BK1:=qa hbox;have GE1:=qa (qz3:w.heap.size≤gb1);replace HB:=zs HB hb;clear hb hbox hg;have ⟨_,_,_,_⟩:=zC2 BK1.out)|(go_at_call 38;(with_reducible refine (spec_pzGood.calls k a0_0 _ _ l0_1 true _ ?side1 ?side2 A2.out).mono ?_);(case side1=>exact qz33);(case side2=>exact qz53);rintro e w8 ⟨rfl,hb⟩;replace BK1:=zBb BK1 hb;replace HB:=qa (below_step qz6 hb);clear hb;have ⟨_,_,_,_⟩:=zC2 BK1.out)|(go_at_call 39;(with_reducible refine (spec_pzAll.calls k a0_0 _ _ l0_1 t2 _ ?side1 ?side2 A4.out).mono ?_);(case side1=>exact qz33);(case side2=>exact qz53);rintro e w10 ⟨v375,rfl,ho0,hb⟩;have HO1:=qa (Kd.R_lower ho0 (below_size qz6));replace BK1:=zBb BK1 hb;replace HB:=qa (below_step qz6 hb);clear hb ho0;obtain ⟨Ao11,co11,eo11⟩:=Kd.R_slice HO1.out;subst eo11))))
  go_ret3;exact ⟨qz15,qz6⟩
 have ⟨c5b0,c5b1⟩:=zNe c5;have c5b2:¬(t2=[]):=fun h_=>c5 (by rw [h_];rfl)
 replace H:=zSg' H;obtain ⟨c12,H⟩:=H;have c12b0:=decide_eq_true c12;have c12b1:decide (0<t2.length)=true:=decide_eq_true (by omega);clear c12;have H':=Aside0.mk H;clear H;go_enter Tryz.func13,Tryz.ntmps13
 go_wp2_with (first|(refine zX (N:=1) (cs:=#[.int .i64 a0_0,.slice A0_1 l0_1.length c0_1]) (t:=26) (h:=?_);intro gb1 hg w13 hbox hb;have BK1:=qa hbox;have GE1:=qa (qz3:w.heap.size≤gb1);replace HB:=zs HB hb;clear hb hbox hg;have ⟨_,_,_,_⟩:=zC2 BK1.out)|(go_at_call 38;(with_reducible refine (spec_pzGood.calls k a0_0 _ _ l0_1 true _ ?side1 ?side2 A2.out).mono ?_);(case side1=>exact qz33);(case side2=>exact qz53);rintro e w15 ⟨rfl,hb⟩;replace BK1:=zBb BK1 hb;replace HB:=qa (below_step qz6 hb);clear hb;have ⟨_,_,_,_⟩:=zC2 BK1.out)|(go_at_call 39;(with_reducible refine (spec_pzAll.calls k a0_0 _ _ l0_1 t2 _ ?side1 ?side2 A4.out).mono ?_);(case side1=>exact qz33);(case side2=>exact qz53);rintro e w17 ⟨v375,rfl,ho0,hb⟩;have HO1:=qa (Kd.R_lower ho0 (below_size qz6));replace BK1:=zBb BK1 hb;replace HB:=qa (below_step qz6 hb);clear hb ho0;obtain ⟨Ao18,co18,eo18⟩:=Kd.R_slice HO1.out;subst eo18;have p377:0≤(0:Int):=(by omega);have q377:0<(t2.length:Int):=of_decide_eq_true qz38;obtain ⟨ad377,e377,hx377_0,hx377_1,hx377_2⟩:=at_T34 (Kd.R_reads' HO1.out).2.2 0 p377 q377;cases e377;have qi377:(0<t2.length)=True:=eq_true (by omega);(try rw [show ((0:Int)).toNat=0 from rfl] at hx377_0);(try rw [show 0*3=0 from rfl] at hx377_0);(try rw [Addr.add_zero'] at hx377_0);(try rw [show ((0:Int)).toNat=0 from rfl] at hx377_1);(try rw [show 0*3=0 from rfl] at hx377_1);(try rw [Addr.add_zero'] at hx377_1);(try rw [show ((0:Int)).toNat=0 from rfl] at hx377_2);(try rw [show 0*3=0 from rfl] at hx377_2);(try rw [Addr.add_zero'] at hx377_2);replace p377:=eq_true p377;replace q377:=eq_true q377;have p378:0≤(0:Int):=(by omega);have q378:0<(t2.length:Int):=of_decide_eq_true qz38;obtain ⟨ad378,e378,hx378_0,hx378_1,hx378_2⟩:=at_T34 (Kd.R_reads' HO1.out).2.2 0 p378 q378;obtain rfl:ad377=ad378:=(by injection e378);have qi378:(0<t2.length)=True:=eq_true (by omega);(try rw [show ((0:Int)).toNat=0 from rfl] at hx378_0);(try rw [show 0*3=0 from rfl] at hx378_0);(try rw [Addr.add_zero'] at hx378_0);(try rw [show ((0:Int)).toNat=0 from rfl] at hx378_1);(try rw [show 0*3=0 from rfl] at hx378_1);(try rw [Addr.add_zero'] at hx378_1);(try rw [show ((0:Int)).toNat=0 from rfl] at hx378_2);(try rw [show 0*3=0 from rfl] at hx378_2);(try rw [Addr.add_zero'] at hx378_2);replace p378:=eq_true p378;replace q378:=eq_true q378))
 (repeat (go_quiet (first|(refine zX (N:=1) (cs:=#[.int .i64 a0_0,.slice A0_1 l0_1.length c0_1]) (t:=26) (h:=?_);intro gb1 hg w13 hbox hb;have BK1:=qa hbox;have GE1:=qa (qz3:w.heap.size≤gb1);replace HB:=zs HB hb;clear hb hbox hg;have ⟨_,_,_,_⟩:=zC2 BK1.out)|(go_at_call 38;(with_reducible refine (spec_pzGood.calls k a0_0 _ _ l0_1 true _ ?side1 ?side2 A2.out).mono ?_);(case side1=>exact qz33);(case side2=>exact qz53);rintro e w15 ⟨rfl,hb⟩;replace BK1:=zBb BK1 hb;replace HB:=qa (below_step qz6 hb);clear hb;have ⟨_,_,_,_⟩:=zC2 BK1.out)|(go_at_call 39;(with_reducible refine (spec_pzAll.calls k a0_0 _ _ l0_1 t2 _ ?side1 ?side2 A4.out).mono ?_);(case side1=>exact qz33);(case side2=>exact qz53);rintro e w17 ⟨v375,rfl,ho0,hb⟩;have HO1:=qa (Kd.R_lower ho0 (below_size qz6));replace BK1:=zBb BK1 hb;replace HB:=qa (below_step qz6 hb);clear hb ho0;obtain ⟨Ao18,co18,eo18⟩:=Kd.R_slice HO1.out;subst eo18;have p377:0≤(0:Int):=(by omega);have q377:0<(t2.length:Int):=of_decide_eq_true qz38;obtain ⟨ad377,e377,hx377_0,hx377_1,hx377_2⟩:=at_T34 (Kd.R_reads' HO1.out).2.2 0 p377 q377;cases e377;have qi377:(0<t2.length)=True:=eq_true (by omega);(try rw [show ((0:Int)).toNat=0 from rfl] at hx377_0);(try rw [show 0*3=0 from rfl] at hx377_0);(try rw [Addr.add_zero'] at hx377_0);(try rw [show ((0:Int)).toNat=0 from rfl] at hx377_1);(try rw [show 0*3=0 from rfl] at hx377_1);(try rw [Addr.add_zero'] at hx377_1);(try rw [show ((0:Int)).toNat=0 from rfl] at hx377_2);(try rw [show 0*3=0 from rfl] at hx377_2);(try rw [Addr.add_zero'] at hx377_2);replace p377:=eq_true p377;replace q377:=eq_true q377;have p378:0≤(0:Int):=(by omega);have q378:0<(t2.length:Int):=of_decide_eq_true qz38;obtain ⟨ad378,e378,hx378_0,hx378_1,hx378_2⟩:=at_T34 (Kd.R_reads' HO1.out).2.2 0 p378 q378;obtain rfl:ad377=ad378:=(by injection e378);have qi378:(0<t2.length)=True:=eq_true (by omega);(try rw [show ((0:Int)).toNat=0 from rfl] at hx378_0);(try rw [show 0*3=0 from rfl] at hx378_0);(try rw [Addr.add_zero'] at hx378_0);(try rw [show ((0:Int)).toNat=0 from rfl] at hx378_1);(try rw [show 0*3=0 from rfl] at hx378_1);(try rw [Addr.add_zero'] at hx378_1);(try rw [show ((0:Int)).toNat=0 from rfl] at hx378_2);(try rw [show 0*3=0 from rfl] at hx378_2);(try rw [Addr.add_zero'] at hx378_2);replace p378:=eq_true p378;replace q378:=eq_true q378));try go_wp2_with (first|(refine zX (N:=1) (cs:=#[.int .i64 a0_0,.slice A0_1 l0_1.length c0_1]) (t:=26) (h:=?_);intro gb1 hg w13 hbox hb;have BK1:=qa hbox;have GE1:=qa (qz3:w.heap.size≤gb1);replace HB:=zs HB hb;clear hb hbox hg;have ⟨_,_,_,_⟩:=zC2 BK1.out)|(go_at_call 38;(with_reducible refine (spec_pzGood.calls k a0_0 _ _ l0_1 true _ ?side1 ?side2 A2.out).mono ?_);(case side1=>exact qz33);(case side2=>exact qz53);rintro e w15 ⟨rfl,hb⟩;replace BK1:=zBb BK1 hb;replace HB:=qa (below_step qz6 hb);clear hb;have ⟨_,_,_,_⟩:=zC2 BK1.out)|(go_at_call 39;(with_reducible refine (spec_pzAll.calls k a0_0 _ _ l0_1 t2 _ ?side1 ?side2 A4.out).mono ?_);(case side1=>exact qz33);(case side2=>exact qz53);rintro e w17 ⟨v375,rfl,ho0,hb⟩;have HO1:=qa (Kd.R_lower ho0 (below_size qz6));replace BK1:=zBb BK1 hb;replace HB:=qa (below_step qz6 hb);clear hb ho0;obtain ⟨Ao18,co18,eo18⟩:=Kd.R_slice HO1.out;subst eo18;have p377:0≤(0:Int):=(by omega);have q377:0<(t2.length:Int):=of_decide_eq_true qz38;obtain ⟨ad377,e377,hx377_0,hx377_1,hx377_2⟩:=at_T34 (Kd.R_reads' HO1.out).2.2 0 p377 q377;cases e377;have qi377:(0<t2.length)=True:=eq_true (by omega);(try rw [show ((0:Int)).toNat=0 from rfl] at hx377_0);(try rw [show 0*3=0 from rfl] at hx377_0);(try rw [Addr.add_zero'] at hx377_0);(try rw [show ((0:Int)).toNat=0 from rfl] at hx377_1);(try rw [show 0*3=0 from rfl] at hx377_1);(try rw [Addr.add_zero'] at hx377_1);(try rw [show ((0:Int)).toNat=0 from rfl] at hx377_2);(try rw [show 0*3=0 from rfl] at hx377_2);(try rw [Addr.add_zero'] at hx377_2);replace p377:=eq_true p377;replace q377:=eq_true q377;have p378:0≤(0:Int):=(by omega);have q378:0<(t2.length:Int):=of_decide_eq_true qz38;obtain ⟨ad378,e378,hx378_0,hx378_1,hx378_2⟩:=at_T34 (Kd.R_reads' HO1.out).2.2 0 p378 q378;obtain rfl:ad377=ad378:=(by injection e378);have qi378:(0<t2.length)=True:=eq_true (by omega);(try rw [show ((0:Int)).toNat=0 from rfl] at hx378_0);(try rw [show 0*3=0 from rfl] at hx378_0);(try rw [Addr.add_zero'] at hx378_0);(try rw [show ((0:Int)).toNat=0 from rfl] at hx378_1);(try rw [show 0*3=0 from rfl] at hx378_1);(try rw [Addr.add_zero'] at hx378_1);(try rw [show ((0:Int)).toNat=0 from rfl] at hx378_2);(try rw [show 0*3=0 from rfl] at hx378_2);(try rw [Addr.add_zero'] at hx378_2);replace p378:=eq_true p378;replace q378:=eq_true q378))))
 go_loopg [6,7,31] k (fun kq v6 v7 v31 w'=>∃(x6_1:Int) (x7_1:Int) (x31_1:Int),v6=.int .i64 x6_1∧v7=.int .i64 x7_1∧v31=.int .i64 x31_1∧Aside0 (spec_SureChain.l0 kq x6_1 x7_1 t2 (t2.length:Int) x31_1=some (r1,r2,r3))∧Aside0 (kq≤k)∧Aside0 (Kd.R k34 34 w' w.heap.size (fun _=>True) (.slice (some ad377) t2.length co18) t2)∧Aside0 (w'.heap[gb1]? = some (.cells #[.int .i64 a0_0,(.slice A0_1 l0_1.length c0_1)] 26 (0,0)))∧Aside0 (Below w.heap.size w w'))
 case atStart=>exact ⟨((rd_T34 t2 0).f0),((rd_T34 t2 0).f1),(0),qz23,qz23,qz23,H',⟨Nat.le_refl _⟩,⟨qz34⟩,⟨qz8⟩,⟨qz6⟩⟩
 case round=>
  clear H';obtain ⟨x6_1,x7_1,x31_1,rfl,rfl,rfl,HA,HK1,HO_29,BK1,HB⟩:=hrel
  cases gk with
  | zero=>exact absurd HA.out (by simp [spec_SureChain.l0])
  | succ k1=>
   have H:=HA.out;clear HA;simp only [spec_SureChain.l0] at H;replace H:=zD' H;rcases H with ⟨c19b0,H⟩|⟨c19b0,H⟩
   ·simp only [Option.some.injEq,Prod.mk.injEq] at H;obtain ⟨rfl,rfl,rfl⟩:=H;go_wp2;(repeat (go_quiet (fail);try go_wp2));go_ret3;exact ⟨qz15,qz6⟩
   replace H:=zDg' H;obtain ⟨c20b0,H⟩:=H;replace H:=zDg' H;obtain ⟨c21b0,H⟩:=H;replace H:=zS' H;rcases H with ⟨c22,H⟩|⟨c22,H⟩
   ·have ⟨c22b0,c22b1⟩:=zNe c22;replace H:=zS' H;rcases H with ⟨c30,H⟩|⟨c30,H⟩
    ·have ⟨c30b0,c30b1⟩:=zNe c30;have H':=Aside0.mk H;clear H;have p379:0≤(x31_1:Int):=of_decide_eq_true qz38;have q379:x31_1<(t2.length:Int):=of_decide_eq_true qz38;obtain ⟨ad379,e379,hx379_0,hx379_1,hx379_2⟩:=at_T34 (Kd.R_reads' HO_29.out).2.2 x31_1 p379 q379;obtain rfl:ad377=ad379:=(by injection e379);replace p379:=eq_true p379;replace q379:=eq_true q379
     go_wp2_with (first|(refine zX (N:=9) (cs:=#[.int .i64 0,.int .i64 0,.int .i64 0]) (t:=34) (h:=?_);intro gb2 hg w34 hbox hb;replace HO_29:=qa (Kd.R_below (Kd.R_elderB qz57 gb2 (Nat.le_of_eq hg.symm)) hb);have BK2:=qa hbox;have GE2:=qa (qz5:w.heap.size≤gb2);replace HB:=qa (below_step qz6 hb);have NB1_2:=qa (qz50:gb1≠gb2);have NB2_1:=qa (qz51:gb2≠gb1);replace BK1:=zBb BK1 hb;clear hb hbox hg;have hnb35:=NB2_1.out;have hnc35:=NB1_2.out;have ⟨_,_,_,_,_,_⟩:=zC3 BK2.out))
     (repeat (go_quiet (first|(refine zX (N:=9) (cs:=#[.int .i64 0,.int .i64 0,.int .i64 0]) (t:=34) (h:=?_);intro gb2 hg w34 hbox hb;replace HO_29:=qa (Kd.R_below (Kd.R_elderB qz57 gb2 (Nat.le_of_eq hg.symm)) hb);have BK2:=qa hbox;have GE2:=qa (qz5:w.heap.size≤gb2);replace HB:=qa (below_step qz6 hb);have NB1_2:=qa (qz50:gb1≠gb2);have NB2_1:=qa (qz51:gb2≠gb1);replace BK1:=zBb BK1 hb;clear hb hbox hg;have hnb35:=NB2_1.out;have hnc35:=NB1_2.out;have ⟨_,_,_,_,_,_⟩:=zC3 BK2.out));try go_wp2_with (first|(refine zX (N:=9) (cs:=#[.int .i64 0,.int .i64 0,.int .i64 0]) (t:=34) (h:=?_);intro gb2 hg w34 hbox hb;replace HO_29:=qa (Kd.R_below (Kd.R_elderB qz57 gb2 (Nat.le_of_eq hg.symm)) hb);have BK2:=qa hbox;have GE2:=qa (qz5:w.heap.size≤gb2);replace HB:=qa (below_step qz6 hb);have NB1_2:=qa (qz50:gb1≠gb2);have NB2_1:=qa (qz51:gb2≠gb1);replace BK1:=zBb BK1 hb;clear hb hbox hg;have hnb35:=NB2_1.out;have hnc35:=NB1_2.out;have ⟨_,_,_,_,_,_⟩:=zC3 BK2.out))))
     go_roundg k1
     case measure=>have:=HK1.out;omega
     case rel=>exact ⟨((-1)),((-1)),(wrap64 (x31_1+1)),qz23,qz23,qz23,H',⟨qz55⟩,⟨qz58⟩,⟨qz41⟩,⟨qz11⟩⟩
    have ⟨c30b0,c30b1⟩:=zEq c30;clear c30;have H':=Aside0.mk H;clear H;have p379:0≤(x31_1:Int):=of_decide_eq_true qz38;have q379:x31_1<(t2.length:Int):=of_decide_eq_true qz38;obtain ⟨ad379,e379,hx379_0,hx379_1,hx379_2⟩:=at_T34 (Kd.R_reads' HO_29.out).2.2 x31_1 p379 q379;obtain rfl:ad377=ad379:=(by injection e379);replace p379:=eq_true p379;replace q379:=eq_true q379
    go_wp2_with (first|(refine zX (N:=9) (cs:=#[.int .i64 0,.int .i64 0,.int .i64 0]) (t:=34) (h:=?_);intro gb2 hg w31 hbox hb;replace HO_29:=qa (Kd.R_below (Kd.R_elderB qz57 gb2 (Nat.le_of_eq hg.symm)) hb);have BK2:=qa hbox;have GE2:=qa (qz5:w.heap.size≤gb2);replace HB:=qa (below_step qz6 hb);have NB1_2:=qa (qz50:gb1≠gb2);have NB2_1:=qa (qz51:gb2≠gb1);replace BK1:=zBb BK1 hb;clear hb hbox hg;have hnb32:=NB2_1.out;have hnc32:=NB1_2.out;have ⟨_,_,_,_,_,_⟩:=zC3 BK2.out))
    (repeat (go_quiet (first|(refine zX (N:=9) (cs:=#[.int .i64 0,.int .i64 0,.int .i64 0]) (t:=34) (h:=?_);intro gb2 hg w31 hbox hb;replace HO_29:=qa (Kd.R_below (Kd.R_elderB qz57 gb2 (Nat.le_of_eq hg.symm)) hb);have BK2:=qa hbox;have GE2:=qa (qz5:w.heap.size≤gb2);replace HB:=qa (below_step qz6 hb);have NB1_2:=qa (qz50:gb1≠gb2);have NB2_1:=qa (qz51:gb2≠gb1);replace BK1:=zBb BK1 hb;clear hb hbox hg;have hnb32:=NB2_1.out;have hnc32:=NB1_2.out;have ⟨_,_,_,_,_,_⟩:=zC3 BK2.out));try go_wp2_with (first|(refine zX (N:=9) (cs:=#[.int .i64 0,.int .i64 0,.int .i64 0]) (t:=34) (h:=?_);intro gb2 hg w31 hbox hb;replace HO_29:=qa (Kd.R_below (Kd.R_elderB qz57 gb2 (Nat.le_of_eq hg.symm)) hb);have BK2:=qa hbox;have GE2:=qa (qz5:w.heap.size≤gb2);replace HB:=qa (below_step qz6 hb);have NB1_2:=qa (qz50:gb1≠gb2);have NB2_1:=qa (qz51:gb2≠gb1);replace BK1:=zBb BK1 hb;clear hb hbox hg;have hnb32:=NB2_1.out;have hnc32:=NB1_2.out;have ⟨_,_,_,_,_,_⟩:=zC3 BK2.out))))
    go_roundg k1
    case measure=>have:=HK1.out;omega
    case rel=>exact ⟨((-1)),(x7_1),(wrap64 (x31_1+1)),qz23,qz23,qz23,H',⟨qz55⟩,⟨qz58⟩,⟨qz41⟩,⟨qz11⟩⟩
   have ⟨c22b0,c22b1⟩:=zEq c22;clear c22;replace H:=zS' H;rcases H with ⟨c23,H⟩|⟨c23,H⟩
   ·have ⟨c23b0,c23b1⟩:=zNe c23;have H':=Aside0.mk H;clear H;have p379:0≤(x31_1:Int):=of_decide_eq_true qz38;have q379:x31_1<(t2.length:Int):=of_decide_eq_true qz38;obtain ⟨ad379,e379,hx379_0,hx379_1,hx379_2⟩:=at_T34 (Kd.R_reads' HO_29.out).2.2 x31_1 p379 q379;obtain rfl:ad377=ad379:=(by injection e379);replace p379:=eq_true p379;replace q379:=eq_true q379
    go_wp2_with (first|(refine zX (N:=9) (cs:=#[.int .i64 0,.int .i64 0,.int .i64 0]) (t:=34) (h:=?_);intro gb2 hg w27 hbox hb;replace HO_29:=qa (Kd.R_below (Kd.R_elderB qz57 gb2 (Nat.le_of_eq hg.symm)) hb);have BK2:=qa hbox;have GE2:=qa (qz5:w.heap.size≤gb2);replace HB:=qa (below_step qz6 hb);have NB1_2:=qa (qz50:gb1≠gb2);have NB2_1:=qa (qz51:gb2≠gb1);replace BK1:=zBb BK1 hb;clear hb hbox hg;have hnb28:=NB2_1.out;have hnc28:=NB1_2.out;have ⟨_,_,_,_,_,_⟩:=zC3 BK2.out))
    (repeat (go_quiet (first|(refine zX (N:=9) (cs:=#[.int .i64 0,.int .i64 0,.int .i64 0]) (t:=34) (h:=?_);intro gb2 hg w27 hbox hb;replace HO_29:=qa (Kd.R_below (Kd.R_elderB qz57 gb2 (Nat.le_of_eq hg.symm)) hb);have BK2:=qa hbox;have GE2:=qa (qz5:w.heap.size≤gb2);replace HB:=qa (below_step qz6 hb);have NB1_2:=qa (qz50:gb1≠gb2);have NB2_1:=qa (qz51:gb2≠gb1);replace BK1:=zBb BK1 hb;clear hb hbox hg;have hnb28:=NB2_1.out;have hnc28:=NB1_2.out;have ⟨_,_,_,_,_,_⟩:=zC3 BK2.out));try go_wp2_with (first|(refine zX (N:=9) (cs:=#[.int .i64 0,.int .i64 0,.int .i64 0]) (t:=34) (h:=?_);intro gb2 hg w27 hbox hb;replace HO_29:=qa (Kd.R_below (Kd.R_elderB qz57 gb2 (Nat.le_of_eq hg.symm)) hb);have BK2:=qa hbox;have GE2:=qa (qz5:w.heap.size≤gb2);replace HB:=qa (below_step qz6 hb);have NB1_2:=qa (qz50:gb1≠gb2);have NB2_1:=qa (qz51:gb2≠gb1);replace BK1:=zBb BK1 hb;clear hb hbox hg;have hnb28:=NB2_1.out;have hnc28:=NB1_2.out;have ⟨_,_,_,_,_,_⟩:=zC3 BK2.out))))
    go_roundg k1
    case measure=>have:=HK1.out;omega
    case rel=>exact ⟨(x6_1),((-1)),(wrap64 (x31_1+1)),qz23,qz23,qz23,H',⟨qz55⟩,⟨qz58⟩,⟨qz41⟩,⟨qz11⟩⟩
   have ⟨c23b0,c23b1⟩:=zEq c23;clear c23;have H':=Aside0.mk H;clear H;have p379:0≤(x31_1:Int):=of_decide_eq_true qz38;have q379:x31_1<(t2.length:Int):=of_decide_eq_true qz38;obtain ⟨ad379,e379,hx379_0,hx379_1,hx379_2⟩:=at_T34 (Kd.R_reads' HO_29.out).2.2 x31_1 p379 q379;obtain rfl:ad377=ad379:=(by injection e379);replace p379:=eq_true p379;replace q379:=eq_true q379
   go_wp2_with (first|(refine zX (N:=9) (cs:=#[.int .i64 0,.int .i64 0,.int .i64 0]) (t:=34) (h:=?_);intro gb2 hg w24 hbox hb;replace HO_29:=qa (Kd.R_below (Kd.R_elderB qz57 gb2 (Nat.le_of_eq hg.symm)) hb);have BK2:=qa hbox;have GE2:=qa (qz5:w.heap.size≤gb2);replace HB:=qa (below_step qz6 hb);have NB1_2:=qa (qz50:gb1≠gb2);have NB2_1:=qa (qz51:gb2≠gb1);replace BK1:=zBb BK1 hb;clear hb hbox hg;have hnb25:=NB2_1.out;have hnc25:=NB1_2.out;have ⟨_,_,_,_,_,_⟩:=zC3 BK2.out))
   (repeat (go_quiet (first|(refine zX (N:=9) (cs:=#[.int .i64 0,.int .i64 0,.int .i64 0]) (t:=34) (h:=?_);intro gb2 hg w24 hbox hb;replace HO_29:=qa (Kd.R_below (Kd.R_elderB qz57 gb2 (Nat.le_of_eq hg.symm)) hb);have BK2:=qa hbox;have GE2:=qa (qz5:w.heap.size≤gb2);replace HB:=qa (below_step qz6 hb);have NB1_2:=qa (qz50:gb1≠gb2);have NB2_1:=qa (qz51:gb2≠gb1);replace BK1:=zBb BK1 hb;clear hb hbox hg;have hnb25:=NB2_1.out;have hnc25:=NB1_2.out;have ⟨_,_,_,_,_,_⟩:=zC3 BK2.out));try go_wp2_with (first|(refine zX (N:=9) (cs:=#[.int .i64 0,.int .i64 0,.int .i64 0]) (t:=34) (h:=?_);intro gb2 hg w24 hbox hb;replace HO_29:=qa (Kd.R_below (Kd.R_elderB qz57 gb2 (Nat.le_of_eq hg.symm)) hb);have BK2:=qa hbox;have GE2:=qa (qz5:w.heap.size≤gb2);replace HB:=qa (below_step qz6 hb);have NB1_2:=qa (qz50:gb1≠gb2);have NB2_1:=qa (qz51:gb2≠gb1);replace BK1:=zBb BK1 hb;clear hb hbox hg;have hnb25:=NB2_1.out;have hnc25:=NB1_2.out;have ⟨_,_,_,_,_,_⟩:=zC3 BK2.out))))
   go_roundg k1
   case measure=>have:=HK1.out;omega
   case rel=>exact ⟨(x6_1),(x7_1),(wrap64 (x31_1+1)),qz23,qz23,qz23,H',⟨qz55⟩,⟨qz58⟩,⟨qz41⟩,⟨qz11⟩⟩
def impl_IsSolved.f (k:Nat) (a0_0:Int) (l0_1:List (S51)):Option (Bool×Bool):=(impl_Solutions.f k a0_0 l0_1).bind fun bt382=>(some (((bt382.1.length:Int)==1),bt382.2))
theorem impl_IsSolved.mono:∀a0 a1 k,LeO (impl_IsSolved.f k a0 a1) (impl_IsSolved.f (k+1) a0 a1):=by
  intro a0 a1 k
  unfold impl_IsSolved.f
  repeat' first
   | with_reducible first|exact impl_Solutions.mono _ _ _|exact LeO.refl _|exact LeO.none _|refine LeO.ite ?_ ?_|refine LeO.bind ?_ (fun _=>?_)
set_option maxHeartbeats 8000000 in
set_option maxRecDepth 100000 in
theorem impl_IsSolved.calls (k:Nat) (a0_0:Int) (A0_1:Option Addr) (c0_1:Nat) (l0_1:List (S51)) (r1:Bool) (r2:Bool) (w:World) (hr0_1:Kd.C k51 w A0_1 l0_1.length l0_1) (hc0_1:l0_1.length≤c0_1) (h:impl_IsSolved.f k a0_0 l0_1=some (r1,r2)) :
    Calls Tryz.prog 14 #[.agg #[.int .i64 a0_0,.slice A0_1 l0_1.length c0_1]] w fun e w'=>e=.returned (.tuple #[.bool r1,.bool r2])∧Below w.heap.size w w':=by
 have hu26:=Tryz.underlying26;have HR0_1:=Aside0.mk hr0_1;have HC0_1:=Aside0.mk hc0_1;clear hr0_1 hc0_1;have HB:=qa (Below.refl w.heap.size w);have H:=h;unfold impl_IsSolved.f at H;clear h;replace H:=zB H;obtain ⟨⟨t1,t2⟩,A2,H⟩:=H;(try dsimp only at H);simp only [Option.some.injEq,Prod.mk.injEq] at H;obtain ⟨rfl,rfl⟩:=H;go_enter Tryz.func14,Tryz.ntmps14
 go_wp2_with (first|(refine zX (N:=1) (cs:=#[.int .i64 a0_0,.slice A0_1 l0_1.length c0_1]) (t:=26) (h:=?_);intro gb1 hg _ hbox hb;have BK1:=qa hbox;have GE1:=qa (qz3:w.heap.size≤gb1);replace HB:=zs HB hb;clear hb hbox hg;have ⟨_,_,_,_⟩:=zC2 BK1.out)|(refine zL 6 (some 8) Tryz.func6 #[.agg #[.int .i64 a0_0,.slice A0_1 l0_1.length c0_1]] (h:=?_);refine (impl_Solutions.calls k a0_0 _ _ l0_1 t1 t2 _ qz33 HC0_1.out A2.out).mono ?_;rintro e _ ⟨v383,rfl,ho0,hb⟩;refine ⟨_,rfl,?_⟩;have HO1:=qa (Kd.R_lower ho0 (below_size qz6));replace BK1:=zBb BK1 hb;replace HB:=qa (below_step qz6 hb);clear hb ho0;obtain ⟨Ao6,co6,eo6⟩:=Kd.R_slice HO1.out;subst eo6))
 go_ret2;exact ⟨qz15,qz6⟩
def spec_pzSolved.f (k:Nat) (a0:Int) (l1:List (S51)):Option (Bool):=(spec_pzAll.f k a0 l1).bind fun t386=>(some ((t386.length:Int)==1))
theorem spec_pzSolved.mono:∀a0 a1 k,LeO (spec_pzSolved.f k a0 a1) (spec_pzSolved.f (k+1) a0 a1):=by
  intro a0 a1 k
  unfold spec_pzSolved.f
  repeat' first
   | with_reducible first|exact spec_pzAll.mono _ _ _|exact LeO.refl _|exact LeO.none _|refine LeO.ite ?_ ?_|refine LeO.bind ?_ (fun _=>?_)
set_option maxHeartbeats 8000000 in
set_option maxRecDepth 100000 in
theorem spec_pzSolved.calls (k:Nat) (a0:Int) (A1:Option Addr) (c1:Nat) (l1:List (S51)) (r:Bool) (w:World) (hr1:Kd.C k51 w A1 l1.length l1) (hc1:l1.length≤c1) (h:spec_pzSolved.f k a0 l1=some r) :
    Calls Tryz.prog 40 #[.int .i64 a0,.slice A1 l1.length c1] w fun e w'=>e=.returned (.bool r)∧Below w.heap.size w w':=by
 have HR1:=Aside0.mk hr1;have HC1:=Aside0.mk hc1;clear hr1 hc1;have HB:=qa (Below.refl w.heap.size w);have H:=h;unfold spec_pzSolved.f at H;clear h;replace H:=zB H;obtain ⟨t1,A3,H⟩:=H;obtain rfl:=Option.some.inj H;go_enter Tryz.func40,Tryz.ntmps40
 go_wp2_with (first|(refine zL 39 (some 7) Tryz.func39 #[.int .i64 a0,.slice A1 l1.length c1] (h:=?_);refine (spec_pzAll.calls k a0 _ _ l1 t1 _ qz59 HC1.out A3.out).mono ?_;rintro e _ ⟨v387,rfl,ho0,hb⟩;refine ⟨_,rfl,?_⟩;have HO1:=qa (Kd.R_lower ho0 (below_size qz4));replace HB:=zs HB hb;clear hb ho0;obtain ⟨Ao5,co5,eo5⟩:=Kd.R_slice HO1.out;subst eo5));go_ret;exact ⟨qz15,qz4⟩
def spec_IsSolved.f (k:Nat) (a0_0:Int) (l0_1:List (S51)):Option (Bool×Bool):=(spec_pzGood.f k a0_0 l0_1).bind fun t390=>(if t390=true then ((spec_pzSolved.f k a0_0 l0_1).bind fun t391=>(some (t391,true))) else (some (false,false)))
theorem spec_IsSolved.mono:∀a0 a1 k,LeO (spec_IsSolved.f k a0 a1) (spec_IsSolved.f (k+1) a0 a1):=by
  intro a0 a1 k
  unfold spec_IsSolved.f
  repeat' first
   | with_reducible first|exact spec_pzGood.mono _ _ _|exact spec_pzSolved.mono _ _ _|exact LeO.refl _|exact LeO.none _|refine LeO.ite ?_ ?_|refine LeO.bind ?_ (fun _=>?_)
set_option maxHeartbeats 8000000 in
set_option maxRecDepth 100000 in
theorem spec_IsSolved.calls (k:Nat) (a0_0:Int) (A0_1:Option Addr) (c0_1:Nat) (l0_1:List (S51)) (r1:Bool) (r2:Bool) (w:World) (hr0_1:Kd.C k51 w A0_1 l0_1.length l0_1) (hc0_1:l0_1.length≤c0_1) (h:spec_IsSolved.f k a0_0 l0_1=some (r1,r2)) :
    Calls Tryz.prog 15 #[.agg #[.int .i64 a0_0,.slice A0_1 l0_1.length c0_1]] w fun e w'=>e=.returned (.tuple #[.bool r1,.bool r2])∧Below w.heap.size w w':=by
 have hu26:=Tryz.underlying26;have HR0_1:=Aside0.mk hr0_1;have HC0_1:=Aside0.mk hc0_1;clear hr0_1 hc0_1;have HB:=qa (Below.refl w.heap.size w);have H:=h;unfold spec_IsSolved.f at H;clear h;replace H:=zB H;obtain ⟨t1,A2,H⟩:=H;replace H:=zI' H;rcases H with ⟨rfl,H⟩|⟨rfl,H⟩
 ·(try dsimp only at H);simp only [Option.some.injEq,Prod.mk.injEq] at H;obtain ⟨rfl,rfl⟩:=H;go_enter Tryz.func15,Tryz.ntmps15
  go_wp2_with (first|(refine zX (N:=1) (cs:=#[.int .i64 a0_0,.slice A0_1 l0_1.length c0_1]) (t:=26) (h:=?_);intro gb1 hg _ hbox hb;have BK1:=qa hbox;have GE1:=qa (qz3:w.heap.size≤gb1);replace HB:=zs HB hb;clear hb hbox hg;have ⟨_,_,_,_⟩:=zC2 BK1.out)|(refine zL 38 (some 5) Tryz.func38 #[.agg #[.int .i64 a0_0,.slice A0_1 l0_1.length c0_1]] (h:=?_);refine (spec_pzGood.calls k a0_0 _ _ l0_1 false _ qz33 HC0_1.out A2.out).mono ?_;rintro e _ ⟨rfl,hb⟩;refine ⟨_,rfl,?_⟩;replace BK1:=zBb BK1 hb;replace HB:=qa (below_step qz6 hb);clear hb))
  go_ret2;exact ⟨qz15,qz6⟩
 (try dsimp only at H);replace H:=zB H;obtain ⟨t2,A4,H⟩:=H;simp only [Option.some.injEq,Prod.mk.injEq] at H;obtain ⟨rfl,rfl⟩:=H;go_enter Tryz.func15,Tryz.ntmps15
 go_wp2_with (first|(refine zX (N:=1) (cs:=#[.int .i64 a0_0,.slice A0_1 l0_1.length c0_1]) (t:=26) (h:=?_);intro gb1 hg _ hbox hb;have BK1:=qa hbox;have GE1:=qa (qz3:w.heap.size≤gb1);replace HB:=zs HB hb;clear hb hbox hg;have ⟨_,_,_,_⟩:=zC2 BK1.out)|(refine zL 38 (some 5) Tryz.func38 #[.agg #[.int .i64 a0_0,.slice A0_1 l0_1.length c0_1]] (h:=?_);refine (spec_pzGood.calls k a0_0 _ _ l0_1 true _ qz33 HC0_1.out A2.out).mono ?_;rintro e _ ⟨rfl,hb⟩;refine ⟨_,rfl,?_⟩;replace BK1:=zBb BK1 hb;replace HB:=qa (below_step qz6 hb);clear hb;have ⟨_,_,_,_⟩:=zC2 BK1.out)|(refine zL 40 (some 11) Tryz.func40 #[.int .i64 a0_0,.slice A0_1 l0_1.length c0_1] (h:=?_);refine (spec_pzSolved.calls k a0_0 _ _ l0_1 t2 _ qz33 HC0_1.out A4.out).mono ?_;rintro e _ ⟨rfl,hb⟩;refine ⟨_,rfl,?_⟩;replace BK1:=zBb BK1 hb;replace HB:=qa (below_step qz6 hb);clear hb))
 go_ret2;exact ⟨qz15,qz6⟩
theorem row_step {P:Program} {o:Oper} {ops:Array Oper} {a:Act} {Kc:Act→World→Prop} {Q:Exit→Act→World→Prop} {W:World} (hw:Region.wanted o (yielded ops a.tmps)=true) {N:Tmp} (_hd:o.dst=some N) {cs:Array Value} {t:TypeId} {n:Nat}
    (hrun:(execOp a.eval o).run P W=.ok (.value (.slice (some ⟨W.heap.size,0,none⟩) n n)) (W.alloc (.cells cs t (0,0))))
    (h:∀g,g=W.heap.size→∀w1,w1.heap[g]? = some (.cells cs t (0,0))→Below W.heap.size W w1→Kc (a.put o.dst (.slice (some ⟨g,0,none⟩) n n)) w1):if Region.wanted o (yielded ops a.tmps)=true then Oper.wp P o a W Kc Q else Kc (a.put o.dst undef) W:=
  event_step hw hrun (h _ rfl _ (blk_new W _) (below_alloc (Below.refl _ _) _))
set_option maxHeartbeats 4000000 in
set_option maxRecDepth 100000 in
theorem grow_nil (n:Nat) (hn:n*24≤140737488355328) (w:World):Calls Tryz.prog 86 #[.slice none 0 0,.int .i64 (n:Int)] w fun e w'=>∃v,e=.returned v∧Kd.R k51 51 w' w.heap.size (fun _=>True) v []∧Below w.heap.size w w':=by
  have h1:¬((n:Int)<0):=by omega
  have h2:wrap64 ((0:Int) - (0:Int))=0:=by unfold wrap64;omega
  have h3:wrap64 ((n:Int) - (0:Int))=(n:Int):=by unfold wrap64;omega
  by_cases h0:n=0
  · subst h0
    go_enter Tryz.func86,Tryz.ntmps86
    go_wp2
    go_ret
    exact ⟨_,rfl,Kd.R_nil _ _ _ _ _,Below.refl _ _⟩
  · have h4:(n:Int)>0:=by omega
    obtain ⟨i,hi,hz,hsz,hby⟩:∃i,Tryz.prog.info? 51=some i∧i.zero=some (.agg #[(.int .i64 0),(.int .i64 0),(.int .i64 0)])∧i.size=3∧i.bytes=24:=by
      have h:=info51
      cases hi:Tryz.prog.info? 51 with
      | none=>rw [hi] at h;cases h
      | some i=>
        rw [hi] at h
        simp only [Option.map_some,Option.some.injEq,Prod.mk.injEq] at h
        exact ⟨i,rfl,h.1,h.2.1,h.2.2⟩
    have hrz:∀ty,(Builtin.append_ #[24,3] ty #[.slice none 0 0,.int .i64 (n:Int)]).run Tryz.prog w=_:=fun ty=>
      Go.Lib.run_append_nil_zeros w 24 3 ty 51 i _ .i64 .i64 Tryz.underlying24 Tryz.underlying3 hi hz n (by omega) (by omega) (by omega) (by rw [hby];omega)
    have hGn:n≤grownCap w n 0 51:=grownCap_ge w _ _ _
    have hG63:grownCap w n 0 51≤maxLen:=grownCap_le_maxLen w n 0 51 (by unfold maxLen;omega)
    obtain ⟨G,hG⟩:∃G,G=grownCap w n 0 51:=⟨_,rfl⟩
    rw [← hG] at hrz hGn hG63
    obtain ⟨cur,hcur⟩:∃cur,cur=Builtin.zeroCells (Value.agg #[(.int .i64 0),(.int .i64 0),(.int .i64 0)]).cells n++Builtin.zeroCells (Value.agg #[(.int .i64 0),(.int .i64 0),(.int .i64 0)]).cells (G - n):=⟨_,rfl⟩
    have hcs:cur.size=G*3:=by
      rw [hcur,Array.size_append,size_zeroCells,size_zeroCells]
      have:(Value.agg #[(.int .i64 0),(.int .i64 0),(.int .i64 0)]).cells.size=3:=by rfl
      rw [this];omega
    rw [← hcur] at hrz
    clear hcur hG hi hz hsz hby
    have HG:=Aside0.mk hG63
    have hG9:G≤9223372036854775807:=by unfold maxLen at hG63;omega
    clear hG63
    go_enter Tryz.func86,Tryz.ntmps86
    go_wp2_with (at_builtin;refine Go.Lib.wpList_append_run _ rfl _ _ _ _ rfl _ _ rfl rfl _ _ (hrz _) ?_)
    go_ret
    refine ⟨_,rfl,⟨fun _ _=>trivial,[],⟨rfl,.inr ⟨w.heap.size,G,cur,rfl,Nat.le_refl _,?_,Nat.zero_le _,HG.out,hcs,by simp⟩⟩,Reps.none _ _⟩,below_alloc (below_drew (Below.refl _ _)) _⟩
    exact heap_alloc_new w.drew _
set_option maxHeartbeats 8000000 in
set_option maxRecDepth 100000 in
theorem concat_two (A1 A2:Option Addr) (c1 c2:Nat) (l1 l2:List S51) (g:Nat) (w:World) (hr1:Kd.C k51 w A1 l1.length l1) (hr2:Kd.C k51 w A2 l2.length l2) (h0:w.cell? ⟨g,0,none⟩=some (.slice A1 l1.length c1)) (h1:w.cell? ⟨g,1,none⟩=some (.slice A2 l2.length c2)) (hl:l1.length+l2.length≤1000000) :
    Calls Tryz.prog 65 #[.slice (some ⟨g,0,none⟩) 2 2] w fun e w'=>∃v,e=.returned v∧Kd.R k51 51 w' w.heap.size (fun _=>True) v (l1++l2)∧Below w.heap.size w w':=by
  obtain ⟨N,hN⟩:∃N,N=l1.length+l2.length:=⟨_,rfl⟩
  have hw1:wrap64 ((0:Int)+(l1.length:Int))=(l1.length:Int):=by unfold wrap64;omega
  have hw1':wrap64 (l1.length:Int)=(l1.length:Int):=by unfold wrap64;omega
  have hw2:wrap64 ((l1.length:Int)+(l2.length:Int))=(N:Int):=by unfold wrap64;omega
  have hn1:¬((l1.length:Int)<0):=by omega
  have hn2:¬((N:Int)<0):=by omega
  have hn:N*24≤140737488355328:=by omega
  have HR1:=Aside0.mk hr1
  have HR2:=Aside0.mk hr2
  have HL:=Aside0.mk hl
  have HH0:=Aside0.mk h0
  have HH1:=Aside0.mk h1
  have hg:=World.block_lt_of_cell? w _ h0
  have HG:=Aside0.mk hg
  have HN:=Aside0.mk hn
  have HNe:=Aside0.mk hN
  clear hN hr1 hr2 hl hn hg
  go_enter Tryz.func65,Tryz.ntmps65
  go_wp2
  go_loopg [3,11] 2 (fun gg s3 s11 wr=>wr=w∧((2≤gg∧s11=.int .i64 0∧s3=.int .i64 0)∨(1≤gg∧s11=.int .i64 1∧s3=.int .i64 (l1.length:Int))∨(s11=.int .i64 2∧s3=.int .i64 (N:Int))))
  case atStart=>exact ⟨rfl,.inl ⟨Nat.le_refl _,rfl,rfl⟩⟩
  case round=>
    obtain ⟨rfl,h⟩:=hrel
    rcases h with ⟨hg,rfl,rfl⟩|⟨hg,rfl,rfl⟩|⟨rfl,rfl⟩
    · go_wp2_with fail
      go_roundg 1
      case measure=>omega
      case rel=>exact ⟨rfl,.inr (.inl ⟨Nat.le_refl _,rfl,by rw [hw1']⟩)⟩
    · go_wp2_with fail
      go_roundg 0
      case measure=>omega
      case rel=>exact ⟨rfl,.inr (.inr ⟨rfl,by rw [hw2]⟩)⟩
    · clear h0 h1
      obtain ⟨wr0,hwr0⟩:∃wr0,wr0=wr:=⟨_,rfl⟩
      subst hwr0
      go_wp2_with fail
      refine (grow_nil N HN.out _).mono ?_
      rintro e w' ⟨v,rfl,hR,hB⟩
      have HO:=Aside0.mk hR
      have HB:=Aside0.mk hB
      clear hR hB
      go_wp2_with fail
      go_loopg [6,27] 2 (fun gg s6 s27 ws=>Aside0 (Below wr0.heap.size wr0 ws)∧((2≤gg∧s27=.int .i64 0∧Aside0 (Kd.R k51 51 ws wr0.heap.size (fun _=>True) s6 []))∨(1≤gg∧s27=.int .i64 1∧Aside0 (Kd.R k51 51 ws wr0.heap.size (fun _=>True) s6 l1))∨(s27=.int .i64 2∧Aside0 (Kd.R k51 51 ws wr0.heap.size (fun _=>True) s6 (l1++l2)))))
      case atStart=>exact ⟨HB,.inl ⟨Nat.le_refl _,rfl,HO⟩⟩
      case round=>
        obtain ⟨BW,h⟩:=hrel
        clear HB HO
        have HB:=BW
        clear BW
        rcases h with ⟨hg2,rfl,HO⟩|⟨hg2,rfl,HO⟩|⟨rfl,HO⟩
        · have hk0:=(HB.out.cell (p:=⟨g,0,none⟩) HG.out).trans HH0.out
          have hk1:=(HB.out.cell (p:=⟨g,1,none⟩) HG.out).trans HH1.out
          go_wp2_with (at_builtin;refine Kd.R_append_rows k51 (w0:=wr0) wr0.heap.size rfl (.tmp 31) (.tmp 32) 24 51 (.agg #[(.int .i64 0),(.int .i64 0),(.int .i64 0)]) 24 rfl Tryz.underlying24 info51 rfl (by decide) (by omega) _ [] l1 _ _ _ (fun _=>True) (fun _=>False) rfl rfl HO.out (Kd.C_below HR1.out HB.out) (fun _ _ h=>h) (fun _ h=>h.elim) (fun _ _=>trivial) HB.out (below_size HB.out) (by have:=HL.out;simp;omega) ?_;intro v9 w9 ho hb9 hg9 hat;have HO2:=Aside0.mk ho;have HB2:=Aside0.mk hb9;clear ho hb9 hg9 hat)
          go_roundg 1
          case measure=>omega
          case rel=>exact ⟨HB2,.inr (.inl ⟨Nat.le_refl _,rfl,HO2⟩)⟩
        · have hk0:=(HB.out.cell (p:=⟨g,0,none⟩) HG.out).trans HH0.out
          have hk1:=(HB.out.cell (p:=⟨g,1,none⟩) HG.out).trans HH1.out
          go_wp2_with (at_builtin;refine Kd.R_append_rows k51 (w0:=wr0) wr0.heap.size rfl (.tmp 31) (.tmp 32) 24 51 (.agg #[(.int .i64 0),(.int .i64 0),(.int .i64 0)]) 24 rfl Tryz.underlying24 info51 rfl (by decide) (by omega) _ l1 l2 _ _ _ (fun _=>True) (fun _=>False) rfl rfl HO.out (Kd.C_below HR2.out HB.out) (fun _ _ h=>h) (fun _ h=>h.elim) (fun _ _=>trivial) HB.out (below_size HB.out) (by have:=HL.out;simp;omega) ?_;intro v9 w9 ho hb9 hg9 hat;have HO2:=Aside0.mk ho;have HB2:=Aside0.mk hb9;clear ho hb9 hg9 hat)
          go_roundg 0
          case measure=>omega
          case rel=>exact ⟨HB2,.inr (.inr ⟨rfl,HO2⟩)⟩
        · go_wp2_with fail
          go_ret
          exact ⟨_,rfl,HO.out,HB.out⟩
def impl_Clue_65.f (l0:List S51) (l1:List S51):Option (List S51):=if l0.length+l1.length≤1000000 then some (l0++l1) else none
theorem impl_Clue_65.calls (A1 A2:Option Addr) (c1 c2:Nat) (l1 l2:List S51) (g:Nat) (r:List S51) (w:World) (hr1:Kd.C k51 w A1 l1.length l1) (hr2:Kd.C k51 w A2 l2.length l2) (h0:w.heap[g]? = some (.cells #[.slice A1 l1.length c1,.slice A2 l2.length c2] 24 (0,0))) (h:impl_Clue_65.f l1 l2=some r) :
    Calls Tryz.prog 65 #[.slice (some ⟨g,0,none⟩) 2 2] w fun e w'=>∃v0_:Value,e=.returned v0_∧Kd.R k51 51 w' w.heap.size (fun _=>True) v0_ r∧Below w.heap.size w w':=by
 unfold impl_Clue_65.f at h;by_cases hl:l1.length+l2.length≤1000000;rotate_left
 ·rw [if_neg hl] at h;cases h
 rw [if_pos hl] at h;obtain rfl:=Option.some.inj h;exact concat_two A1 A2 c1 c2 l1 l2 g w hr1 hr2 ((blk_cell h0 0).trans rfl) ((blk_cell h0 1).trans rfl) hl
end Go.Proofs.YtdphjeiccokhnaaGreatDoor.QFnChainsGuessed
