/- The functions that a law reaches, as plain Lean functions, and their walks. Written by a program of this session, turned out of the kit's print. Conditions: those that each theorem names. -/
import Derived.Test.YtdphjeiccokhnaaGreatDoorMac
import Derived.Test.YtdphjeiccokhnaaGreatDoorQFnChainsGuessedx0
import Derived.Test.YtdphjeiccokhnaaGreatDoorQFnChainsGuessedx3
import Derived.Test.YtdphjeiccokhnaaGreatDoorQFnChainsGuessedx7
import Derived.Test.YtdphjeiccokhnaaGreatDoorQFnChainsGuessedx8
import Derived.Test.YtdphjeiccokhnaaGreatDoorQFnChainsGuessedx9
namespace Go.Proofs.YtdphjeiccokhnaaGreatDoor.QFnChainsGuessed
open Go.RowKit Go.Proofs.YtdphjeiccokhnaaGreatDoorW.PrintWords Go.Proofs.YtdphjeiccokhnaaGreatDoorW.PrintLast Go.Proofs.YtdphjeiccokhnaaGreatDoorW.PrintMore Go.Proofs.YtdphjeiccokhnaaGreatDoor.Mac
attribute [local go_sem] max2_int min2_int max_two min_two max_three min_three max_four min_four
attribute [local go_sem] Go.Proofs.YtdphjeiccokhnaaGreatDoor.Kit.isSome_setCell
set_option linter.unusedVariables false
set_option linter.unusedSimpArgs false
attribute [local go_sem high] eqA51
def impl_Chain_clue.f (k:Nat) (a0_0:Int) (a0_1:Int) (a0_2:Int) (a1:Int):Option (Int×Int×Int×Bool):=if a1=0 then (if a0_0>a0_1 then (some (a1,0,1,true)) else (some (a1,0,0,true))) else (if a1=1 then (some (a1,0,wrap64 (a0_0+a0_1),true)) else (if a1=2 then (some (a1,0,wrap64 (a0_0*a0_1),true)) else (if a1=3 then ((impl_LongShare.f k a0_0 a0_1 a0_2 (⟨#[100]⟩:ByteArray)).bind fun bt291=>(some (a1,bt291.1,bt291.2.1,bt291.2.2))) else (if a1=4 then ((impl_MeanRun.f k a0_0 a0_1 a0_2 (⟨#[119]⟩:ByteArray)).bind fun bt294=>(some (a1,bt294.1,bt294.2.1,bt294.2.2))) else (some (a1,0,wrap64 ((wrap64 ((wrap64 (a0_2 - a0_0))*(wrap64 (a0_2 - a0_0))))+(wrap64 (a0_0*a0_1))),true))))))
theorem impl_Chain_clue.mono:∀a0 a1 a2 a3 k,LeO (impl_Chain_clue.f k a0 a1 a2 a3) (impl_Chain_clue.f (k+1) a0 a1 a2 a3):=by
  intro a0 a1 a2 a3 k
  unfold impl_Chain_clue.f
  repeat' first
   | with_reducible first|exact impl_LongShare.mono _ _ _ _ _|exact impl_MeanRun.mono _ _ _ _ _|exact LeO.refl _|exact LeO.none _|refine LeO.ite ?_ ?_|refine LeO.bind ?_ (fun _=>?_)
set_option maxHeartbeats 8000000 in
set_option maxRecDepth 100000 in
theorem impl_Chain_clue.calls (k:Nat) (a0_0:Int) (a0_1:Int) (a0_2:Int) (a1:Int) (r1:Int) (r2:Int) (r3:Int) (r4:Bool) (w:World) (h:impl_Chain_clue.f k a0_0 a0_1 a0_2 a1=some (r1,r2,r3,r4)) :
    Calls Tryz.prog 73 #[.agg #[.int .i64 a0_0,.int .i64 a0_1,.int .i64 a0_2],.int .i64 a1] w fun e w'=>e=.returned (.tuple #[.agg #[.int .i64 r1,.int .i64 r2,.int .i64 r3],.bool r4])∧Below w.heap.size w w':=by
 have hu34:=Tryz.underlying34;have hu51:=Tryz.underlying51;have HB:=qa (Below.refl w.heap.size w);have H:=h;unfold impl_Chain_clue.f at H;clear h;replace H:=zS H;rcases H with ⟨c3,H⟩|⟨c3,H⟩
 ·have ⟨c3b0,c3b1⟩:=zEq c3;clear c3;replace H:=zD' H;rcases H with ⟨c4b0,H⟩|⟨c4b0,H⟩
  ·simp only [Option.some.injEq,Prod.mk.injEq] at H;obtain ⟨rfl,rfl,rfl,rfl⟩:=H;go_enter Tryz.func73,Tryz.ntmps73
   go_wp2_with (first|(refine zX (N:=2) (cs:=#[.int .i64 a0_0,.int .i64 a0_1,.int .i64 a0_2]) (t:=34) (h:=?_);intro gb1 hg _ hbox hb;have BK1:=qa hbox;have GE1:=qa (qz3:w.heap.size≤gb1);replace HB:=zs HB hb;clear hb hbox hg)|(refine zX (N:=4) (cs:=#[.int .i64 0,.int .i64 0,.int .i64 0]) (t:=51) (h:=?_);intro gb2 hg _ hbox hb;have BK2:=qa hbox;have GE2:=qa (qz5:w.heap.size≤gb2);replace HB:=qa (below_step qz6 hb);have NB1_2:=qa (qz7:gb1≠gb2);have NB2_1:=qa (qz9:gb2≠gb1);replace BK1:=zBb BK1 hb;clear hb hbox hg)|(refine zX (N:=6) (cs:=#[.int .i64 0,.int .i64 0,.int .i64 0]) (t:=51) (h:=?_);intro gb3 hg _ hbox hb;have BK3:=qa hbox;have GE3:=qa (qz10:w.heap.size≤gb3);replace HB:=qa (below_step qz11 hb);have NB1_3:=qa (qz7:gb1≠gb3);have NB3_1:=qa (qz9:gb3≠gb1);replace BK1:=zBb BK1 hb;have NB2_3:=qa (qz12:gb2≠gb3);have NB3_2:=qa (qz14:gb3≠gb2);replace BK2:=zBb BK2 hb;clear hb hbox hg;have hnb17:=NB3_1.out;have hnc17:=NB1_3.out;have hnb18:=NB3_2.out;have hnc18:=NB2_3.out;have ⟨_,_,_,_,_,_⟩:=zC3 BK3.out;have hnb20:=NB1_2.out;have hnc20:=NB2_1.out;have ⟨_,_,_,_,_,_⟩:=zC3 BK1.out;have ⟨_,_,_,_,_,_⟩:=zC3 BK2.out))
   refine bodyPost_ret (results_ct rfl _ _ gb2 51 #[.int .i64 a1,.int .i64 0,.int .i64 0] (0,0) _ rfl (by (with_reducible repeat (first|refine blk_drewN ?_ _|refine blk_drew ?_|refine blk_alloc ?_ _));refine blk_put (cs:=#[.int .i64 a1,.int .i64 0,.int .i64 0]) ?_ 2 _ rfl;(with_reducible repeat (first|refine blk_drewN ?_ _|refine blk_drew ?_|refine blk_alloc ?_ _));refine blk_put (cs:=#[.int .i64 a1,.int .i64 0,.int .i64 0]) ?_ 1 _ rfl;(with_reducible repeat (first|refine blk_drewN ?_ _|refine blk_drew ?_|refine blk_alloc ?_ _));refine blk_put (cs:=#[.int .i64 0,.int .i64 0,.int .i64 0]) ?_ 0 _ rfl;(with_reducible repeat (first|refine blk_drewN ?_ _|refine blk_drew ?_|refine blk_alloc ?_ _));refine blk_far ?_ NB2_3.out _;(with_reducible repeat (first|refine blk_drewN ?_ _|refine blk_drew ?_|refine blk_alloc ?_ _));refine blk_far ?_ NB2_3.out _;(with_reducible repeat (first|refine blk_drewN ?_ _|refine blk_drew ?_|refine blk_alloc ?_ _));refine blk_far ?_ NB2_3.out _;(with_reducible repeat (first|refine blk_drewN ?_ _|refine blk_drew ?_|refine blk_alloc ?_ _));exact BK2.out) Tryz.underlying51 rfl qz2) rfl ?_
   exact ⟨qz15,qz16⟩
  simp only [Option.some.injEq,Prod.mk.injEq] at H;obtain ⟨rfl,rfl,rfl,rfl⟩:=H;go_enter Tryz.func73,Tryz.ntmps73
  go_wp2_with (first|(refine zX (N:=2) (cs:=#[.int .i64 a0_0,.int .i64 a0_1,.int .i64 a0_2]) (t:=34) (h:=?_);intro gb1 hg _ hbox hb;have BK1:=qa hbox;have GE1:=qa (qz3:w.heap.size≤gb1);replace HB:=zs HB hb;clear hb hbox hg)|(refine zX (N:=4) (cs:=#[.int .i64 0,.int .i64 0,.int .i64 0]) (t:=51) (h:=?_);intro gb2 hg _ hbox hb;have BK2:=qa hbox;have GE2:=qa (qz5:w.heap.size≤gb2);replace HB:=qa (below_step qz6 hb);have NB1_2:=qa (qz7:gb1≠gb2);have NB2_1:=qa (qz9:gb2≠gb1);replace BK1:=zBb BK1 hb;clear hb hbox hg)|(refine zX (N:=6) (cs:=#[.int .i64 0,.int .i64 0,.int .i64 0]) (t:=51) (h:=?_);intro gb3 hg _ hbox hb;have BK3:=qa hbox;have GE3:=qa (qz10:w.heap.size≤gb3);replace HB:=qa (below_step qz11 hb);have NB1_3:=qa (qz7:gb1≠gb3);have NB3_1:=qa (qz9:gb3≠gb1);replace BK1:=zBb BK1 hb;have NB2_3:=qa (qz12:gb2≠gb3);have NB3_2:=qa (qz14:gb3≠gb2);replace BK2:=zBb BK2 hb;clear hb hbox hg;have hnb8:=NB3_1.out;have hnc8:=NB1_3.out;have hnb9:=NB3_2.out;have hnc9:=NB2_3.out;have ⟨_,_,_,_,_,_⟩:=zC3 BK3.out;have hnb11:=NB1_2.out;have hnc11:=NB2_1.out;have ⟨_,_,_,_,_,_⟩:=zC3 BK1.out;have ⟨_,_,_,_,_,_⟩:=zC3 BK2.out))
  refine bodyPost_ret (results_ct rfl _ _ gb2 51 #[.int .i64 a1,.int .i64 0,.int .i64 1] (0,0) _ rfl qz17 Tryz.underlying51 rfl qz2) rfl ?_
  exact ⟨qz15,qz16⟩
 have ⟨c3b0,c3b1⟩:=zNe c3;replace H:=zS H;rcases H with ⟨c23,H⟩|⟨c23,H⟩
 ·have ⟨c23b0,c23b1⟩:=zEq c23;clear c23;simp only [Option.some.injEq,Prod.mk.injEq] at H;obtain ⟨rfl,rfl,rfl,rfl⟩:=H;go_enter Tryz.func73,Tryz.ntmps73
  go_wp2_with (first|(refine zX (N:=2) (cs:=#[.int .i64 a0_0,.int .i64 a0_1,.int .i64 a0_2]) (t:=34) (h:=?_);intro gb1 hg _ hbox hb;have BK1:=qa hbox;have GE1:=qa (qz3:w.heap.size≤gb1);replace HB:=zs HB hb;clear hb hbox hg)|(refine zX (N:=4) (cs:=#[.int .i64 0,.int .i64 0,.int .i64 0]) (t:=51) (h:=?_);intro gb2 hg _ hbox hb;have BK2:=qa hbox;have GE2:=qa (qz5:w.heap.size≤gb2);replace HB:=qa (below_step qz6 hb);have NB1_2:=qa (qz7:gb1≠gb2);have NB2_1:=qa (qz9:gb2≠gb1);replace BK1:=zBb BK1 hb;clear hb hbox hg)|(refine zX (N:=6) (cs:=#[.int .i64 0,.int .i64 0,.int .i64 0]) (t:=51) (h:=?_);intro gb3 hg _ hbox hb;have BK3:=qa hbox;have GE3:=qa (qz10:w.heap.size≤gb3);replace HB:=qa (below_step qz11 hb);have NB1_3:=qa (qz7:gb1≠gb3);have NB3_1:=qa (qz9:gb3≠gb1);replace BK1:=zBb BK1 hb;have NB2_3:=qa (qz12:gb2≠gb3);have NB3_2:=qa (qz14:gb3≠gb2);replace BK2:=zBb BK2 hb;clear hb hbox hg;have hnb27:=NB3_1.out;have hnc27:=NB1_3.out;have hnb28:=NB3_2.out;have hnc28:=NB2_3.out;have ⟨_,_,_,_,_,_⟩:=zC3 BK3.out;have hnb30:=NB1_2.out;have hnc30:=NB2_1.out;have ⟨_,_,_,_,_,_⟩:=zC3 BK1.out;have ⟨_,_,_,_,_,_⟩:=zC3 BK2.out))
  refine bodyPost_ret (results_ct rfl _ _ gb2 51 #[.int .i64 a1,.int .i64 0,.int .i64 (wrap64 (a0_0+a0_1))] (0,0) _ rfl qz17 Tryz.underlying51 rfl qz2) rfl ?_
  exact ⟨qz15,qz16⟩
 have ⟨c23b0,c23b1⟩:=zNe c23;replace H:=zS H;rcases H with ⟨c33,H⟩|⟨c33,H⟩
 ·have ⟨c33b0,c33b1⟩:=zEq c33;clear c33;simp only [Option.some.injEq,Prod.mk.injEq] at H;obtain ⟨rfl,rfl,rfl,rfl⟩:=H;go_enter Tryz.func73,Tryz.ntmps73
  go_wp2_with (first|(refine zX (N:=2) (cs:=#[.int .i64 a0_0,.int .i64 a0_1,.int .i64 a0_2]) (t:=34) (h:=?_);intro gb1 hg _ hbox hb;have BK1:=qa hbox;have GE1:=qa (qz3:w.heap.size≤gb1);replace HB:=zs HB hb;clear hb hbox hg)|(refine zX (N:=4) (cs:=#[.int .i64 0,.int .i64 0,.int .i64 0]) (t:=51) (h:=?_);intro gb2 hg _ hbox hb;have BK2:=qa hbox;have GE2:=qa (qz5:w.heap.size≤gb2);replace HB:=qa (below_step qz6 hb);have NB1_2:=qa (qz7:gb1≠gb2);have NB2_1:=qa (qz9:gb2≠gb1);replace BK1:=zBb BK1 hb;clear hb hbox hg)|(refine zX (N:=6) (cs:=#[.int .i64 0,.int .i64 0,.int .i64 0]) (t:=51) (h:=?_);intro gb3 hg _ hbox hb;have BK3:=qa hbox;have GE3:=qa (qz10:w.heap.size≤gb3);replace HB:=qa (below_step qz11 hb);have NB1_3:=qa (qz7:gb1≠gb3);have NB3_1:=qa (qz9:gb3≠gb1);replace BK1:=zBb BK1 hb;have NB2_3:=qa (qz12:gb2≠gb3);have NB3_2:=qa (qz14:gb3≠gb2);replace BK2:=zBb BK2 hb;clear hb hbox hg;have hnb37:=NB3_1.out;have hnc37:=NB1_3.out;have hnb38:=NB3_2.out;have hnc38:=NB2_3.out;have ⟨_,_,_,_,_,_⟩:=zC3 BK3.out;have hnb40:=NB1_2.out;have hnc40:=NB2_1.out;have ⟨_,_,_,_,_,_⟩:=zC3 BK1.out;have ⟨_,_,_,_,_,_⟩:=zC3 BK2.out))
  refine bodyPost_ret (results_ct rfl _ _ gb2 51 #[.int .i64 a1,.int .i64 0,.int .i64 (wrap64 (a0_0*a0_1))] (0,0) _ rfl qz17 Tryz.underlying51 rfl qz2) rfl ?_
  exact ⟨qz15,qz16⟩
 have ⟨c33b0,c33b1⟩:=zNe c33;replace H:=zS H;rcases H with ⟨c43,H⟩|⟨c43,H⟩
 ·have ⟨c43b0,c43b1⟩:=zEq c43;clear c43;replace H:=zB H;obtain ⟨⟨t1,t2,t3⟩,A44,H⟩:=H;(try dsimp only at H);simp only [Option.some.injEq,Prod.mk.injEq] at H;obtain ⟨rfl,rfl,rfl,rfl⟩:=H;go_enter Tryz.func73,Tryz.ntmps73
  go_wp2_with (first|(refine zX (N:=2) (cs:=#[.int .i64 a0_0,.int .i64 a0_1,.int .i64 a0_2]) (t:=34) (h:=?_);intro gb1 hg _ hbox hb;have BK1:=qa hbox;have GE1:=qa (qz3:w.heap.size≤gb1);replace HB:=zs HB hb;clear hb hbox hg)|(refine zX (N:=4) (cs:=#[.int .i64 0,.int .i64 0,.int .i64 0]) (t:=51) (h:=?_);intro gb2 hg _ hbox hb;have BK2:=qa hbox;have GE2:=qa (qz5:w.heap.size≤gb2);replace HB:=qa (below_step qz6 hb);have NB1_2:=qa (qz7:gb1≠gb2);have NB2_1:=qa (qz9:gb2≠gb1);replace BK1:=zBb BK1 hb;clear hb hbox hg)|(refine zX (N:=6) (cs:=#[.int .i64 0,.int .i64 0,.int .i64 0]) (t:=51) (h:=?_);intro gb3 hg _ hbox hb;have BK3:=qa hbox;have GE3:=qa (qz10:w.heap.size≤gb3);replace HB:=qa (below_step qz11 hb);have NB1_3:=qa (qz7:gb1≠gb3);have NB3_1:=qa (qz9:gb3≠gb1);replace BK1:=zBb BK1 hb;have NB2_3:=qa (qz12:gb2≠gb3);have NB3_2:=qa (qz14:gb3≠gb2);replace BK2:=zBb BK2 hb;clear hb hbox hg;have hnb48:=NB3_1.out;have hnc48:=NB1_3.out;have hnb49:=NB3_2.out;have hnc49:=NB2_3.out;have ⟨_,_,_,_,_,_⟩:=zC3 BK3.out;have hnb51:=NB1_2.out;have hnc51:=NB2_1.out;have ⟨_,_,_,_,_,_⟩:=zC3 BK1.out)|(refine zL 90 (some 57) Tryz.func90 #[.agg #[.int .i64 a0_0,.int .i64 a0_1,.int .i64 a0_2],.string (⟨#[100]⟩:ByteArray)] (h:=?_);refine (impl_LongShare.calls k a0_0 a0_1 a0_2 (⟨#[100]⟩:ByteArray) t1 t2 t3 _ A44.out).mono ?_;rintro e _ ⟨rfl,hb⟩;refine ⟨_,rfl,?_⟩;replace BK1:=qa (blk_below (g:=gb1) (o:=.cells #[.int .i64 a0_0,.int .i64 a0_1,.int .i64 a0_2] 34 (0,0)) qz18 hb);replace BK2:=qa (blk_below (g:=gb2) (o:=.cells #[.int .i64 0,.int .i64 0,.int .i64 0] 51 (0,0)) qz19 hb);replace BK3:=qa (blk_below (g:=gb3) (o:=.cells #[.int .i64 a1,.int .i64 0,.int .i64 0] 51 (0,0)) qz20 hb);replace HB:=qa (below_step qz16 hb);clear hb;have ⟨_,_,_,_,_,_⟩:=zC3 BK3.out;have ⟨_,_,_,_,_,_⟩:=zC3 BK2.out))
  refine bodyPost_ret (results_ct rfl _ _ gb2 51 #[.int .i64 a1,.int .i64 t1,.int .i64 t2] (0,0) _ rfl (by (with_reducible repeat (first|refine blk_drewN ?_ _|refine blk_drew ?_|refine blk_alloc ?_ _));refine blk_put (cs:=#[.int .i64 a1,.int .i64 t1,.int .i64 0]) ?_ 2 _ rfl;(with_reducible repeat (first|refine blk_drewN ?_ _|refine blk_drew ?_|refine blk_alloc ?_ _));refine blk_put (cs:=#[.int .i64 a1,.int .i64 0,.int .i64 0]) ?_ 1 _ rfl;(with_reducible repeat (first|refine blk_drewN ?_ _|refine blk_drew ?_|refine blk_alloc ?_ _));refine blk_put (cs:=#[.int .i64 0,.int .i64 0,.int .i64 0]) ?_ 0 _ rfl;(with_reducible repeat (first|refine blk_drewN ?_ _|refine blk_drew ?_|refine blk_alloc ?_ _));refine blk_far ?_ NB2_3.out _;(with_reducible repeat (first|refine blk_drewN ?_ _|refine blk_drew ?_|refine blk_alloc ?_ _));refine blk_far ?_ NB2_3.out _;(with_reducible repeat (first|refine blk_drewN ?_ _|refine blk_drew ?_|refine blk_alloc ?_ _));exact BK2.out) Tryz.underlying51 rfl qz2) rfl ?_
  exact ⟨qz15,qz16⟩
 have ⟨c43b0,c43b1⟩:=zNe c43;replace H:=zS' H;rcases H with ⟨c56,H⟩|⟨c56,H⟩
 ·have ⟨c56b0,c56b1⟩:=zNe c56;simp only [Option.some.injEq,Prod.mk.injEq] at H;obtain ⟨rfl,rfl,rfl,rfl⟩:=H;go_enter Tryz.func73,Tryz.ntmps73
  go_wp2_with (first|(refine zX (N:=2) (cs:=#[.int .i64 a0_0,.int .i64 a0_1,.int .i64 a0_2]) (t:=34) (h:=?_);intro gb1 hg _ hbox hb;have BK1:=qa hbox;have GE1:=qa (qz3:w.heap.size≤gb1);replace HB:=zs HB hb;clear hb hbox hg)|(refine zX (N:=4) (cs:=#[.int .i64 0,.int .i64 0,.int .i64 0]) (t:=51) (h:=?_);intro gb2 hg _ hbox hb;have BK2:=qa hbox;have GE2:=qa (qz5:w.heap.size≤gb2);replace HB:=qa (below_step qz6 hb);have NB1_2:=qa (qz7:gb1≠gb2);have NB2_1:=qa (qz9:gb2≠gb1);replace BK1:=zBb BK1 hb;clear hb hbox hg)|(refine zX (N:=6) (cs:=#[.int .i64 0,.int .i64 0,.int .i64 0]) (t:=51) (h:=?_);intro gb3 hg _ hbox hb;have BK3:=qa hbox;have GE3:=qa (qz10:w.heap.size≤gb3);replace HB:=qa (below_step qz11 hb);have NB1_3:=qa (qz7:gb1≠gb3);have NB3_1:=qa (qz9:gb3≠gb1);replace BK1:=zBb BK1 hb;have NB2_3:=qa (qz12:gb2≠gb3);have NB3_2:=qa (qz14:gb3≠gb2);replace BK2:=zBb BK2 hb;clear hb hbox hg;have hnb72:=NB3_1.out;have hnc72:=NB1_3.out;have hnb73:=NB3_2.out;have hnc73:=NB2_3.out;have ⟨_,_,_,_,_,_⟩:=zC3 BK3.out;have hnb75:=NB1_2.out;have hnc75:=NB2_1.out;have ⟨_,_,_,_,_,_⟩:=zC3 BK1.out;have ⟨_,_,_,_,_,_⟩:=zC3 BK2.out))
  refine bodyPost_ret (results_ct rfl _ _ gb2 51 #[.int .i64 a1,.int .i64 0,.int .i64 (wrap64 ((wrap64 ((wrap64 (a0_2 - a0_0))*(wrap64 (a0_2 - a0_0))))+(wrap64 (a0_0*a0_1))))] (0,0) _ rfl qz17 Tryz.underlying51 rfl qz2) rfl ?_
  exact ⟨qz15,qz16⟩
 have ⟨c56b0,c56b1⟩:=zEq c56;clear c56;replace H:=zB H;obtain ⟨⟨t4,t5,t6⟩,A57,H⟩:=H;(try dsimp only at H);simp only [Option.some.injEq,Prod.mk.injEq] at H;obtain ⟨rfl,rfl,rfl,rfl⟩:=H;go_enter Tryz.func73,Tryz.ntmps73
 go_wp2_with (first|(refine zX (N:=2) (cs:=#[.int .i64 a0_0,.int .i64 a0_1,.int .i64 a0_2]) (t:=34) (h:=?_);intro gb1 hg _ hbox hb;have BK1:=qa hbox;have GE1:=qa (qz3:w.heap.size≤gb1);replace HB:=zs HB hb;clear hb hbox hg)|(refine zX (N:=4) (cs:=#[.int .i64 0,.int .i64 0,.int .i64 0]) (t:=51) (h:=?_);intro gb2 hg _ hbox hb;have BK2:=qa hbox;have GE2:=qa (qz5:w.heap.size≤gb2);replace HB:=qa (below_step qz6 hb);have NB1_2:=qa (qz7:gb1≠gb2);have NB2_1:=qa (qz9:gb2≠gb1);replace BK1:=zBb BK1 hb;clear hb hbox hg)|(refine zX (N:=6) (cs:=#[.int .i64 0,.int .i64 0,.int .i64 0]) (t:=51) (h:=?_);intro gb3 hg _ hbox hb;have BK3:=qa hbox;have GE3:=qa (qz10:w.heap.size≤gb3);replace HB:=qa (below_step qz11 hb);have NB1_3:=qa (qz7:gb1≠gb3);have NB3_1:=qa (qz9:gb3≠gb1);replace BK1:=zBb BK1 hb;have NB2_3:=qa (qz12:gb2≠gb3);have NB3_2:=qa (qz14:gb3≠gb2);replace BK2:=zBb BK2 hb;clear hb hbox hg;have hnb61:=NB3_1.out;have hnc61:=NB1_3.out;have hnb62:=NB3_2.out;have hnc62:=NB2_3.out;have ⟨_,_,_,_,_,_⟩:=zC3 BK3.out;have hnb64:=NB1_2.out;have hnc64:=NB2_1.out;have ⟨_,_,_,_,_,_⟩:=zC3 BK1.out)|(refine zL 91 (some 67) Tryz.func91 #[.agg #[.int .i64 a0_0,.int .i64 a0_1,.int .i64 a0_2],.string (⟨#[119]⟩:ByteArray)] (h:=?_);refine (impl_MeanRun.calls k a0_0 a0_1 a0_2 (⟨#[119]⟩:ByteArray) t4 t5 t6 _ A57.out).mono ?_;rintro e _ ⟨rfl,hb⟩;refine ⟨_,rfl,?_⟩;replace BK1:=qa (blk_below (g:=gb1) (o:=.cells #[.int .i64 a0_0,.int .i64 a0_1,.int .i64 a0_2] 34 (0,0)) qz18 hb);replace BK2:=qa (blk_below (g:=gb2) (o:=.cells #[.int .i64 0,.int .i64 0,.int .i64 0] 51 (0,0)) qz19 hb);replace BK3:=qa (blk_below (g:=gb3) (o:=.cells #[.int .i64 a1,.int .i64 0,.int .i64 0] 51 (0,0)) qz20 hb);replace HB:=qa (below_step qz16 hb);clear hb;have ⟨_,_,_,_,_,_⟩:=zC3 BK3.out;have ⟨_,_,_,_,_,_⟩:=zC3 BK2.out))
 refine bodyPost_ret (results_ct rfl _ _ gb2 51 #[.int .i64 a1,.int .i64 t4,.int .i64 t5] (0,0) _ rfl (by (with_reducible repeat (first|refine blk_drewN ?_ _|refine blk_drew ?_|refine blk_alloc ?_ _));refine blk_put (cs:=#[.int .i64 a1,.int .i64 t4,.int .i64 0]) ?_ 2 _ rfl;(with_reducible repeat (first|refine blk_drewN ?_ _|refine blk_drew ?_|refine blk_alloc ?_ _));refine blk_put (cs:=#[.int .i64 a1,.int .i64 0,.int .i64 0]) ?_ 1 _ rfl;(with_reducible repeat (first|refine blk_drewN ?_ _|refine blk_drew ?_|refine blk_alloc ?_ _));refine blk_put (cs:=#[.int .i64 0,.int .i64 0,.int .i64 0]) ?_ 0 _ rfl;(with_reducible repeat (first|refine blk_drewN ?_ _|refine blk_drew ?_|refine blk_alloc ?_ _));refine blk_far ?_ NB2_3.out _;(with_reducible repeat (first|refine blk_drewN ?_ _|refine blk_drew ?_|refine blk_alloc ?_ _));refine blk_far ?_ NB2_3.out _;(with_reducible repeat (first|refine blk_drewN ?_ _|refine blk_drew ?_|refine blk_alloc ?_ _));exact BK2.out) Tryz.underlying51 rfl qz2) rfl ?_
 exact ⟨qz15,qz16⟩
def impl_Chain_fits.f (k:Nat) (a0_0:Int) (a0_1:Int) (a0_2:Int) (a1_0:Int) (a1_1:Int) (a1_2:Int):Option (Bool):=(impl_Chain_clue.f k a0_0 a0_1 a0_2 a1_0).bind fun bt299=>(if bt299.2.2.2=true then (some (bt299.1==a1_0 && (bt299.2.1==a1_1 && (bt299.2.2.1==a1_2)))) else (some false))
theorem impl_Chain_fits.mono:∀a0 a1 a2 a3 a4 a5 k,LeO (impl_Chain_fits.f k a0 a1 a2 a3 a4 a5) (impl_Chain_fits.f (k+1) a0 a1 a2 a3 a4 a5):=by
  intro a0 a1 a2 a3 a4 a5 k
  unfold impl_Chain_fits.f
  repeat' first
   | with_reducible first|exact impl_Chain_clue.mono _ _ _ _ _|exact LeO.refl _|exact LeO.none _|refine LeO.ite ?_ ?_|refine LeO.bind ?_ (fun _=>?_)
set_option maxHeartbeats 8000000 in
set_option maxRecDepth 100000 in
theorem impl_Chain_fits.calls (k:Nat) (a0_0:Int) (a0_1:Int) (a0_2:Int) (a1_0:Int) (a1_1:Int) (a1_2:Int) (r:Bool) (w:World) (h:impl_Chain_fits.f k a0_0 a0_1 a0_2 a1_0 a1_1 a1_2=some r) :
    Calls Tryz.prog 52 #[.agg #[.int .i64 a0_0,.int .i64 a0_1,.int .i64 a0_2],.agg #[.int .i64 a1_0,.int .i64 a1_1,.int .i64 a1_2]] w fun e w'=>e=.returned (.bool r)∧Below w.heap.size w w':=by
 have hu34:=Tryz.underlying34;have hu51:=Tryz.underlying51;have HB:=qa (Below.refl w.heap.size w);have H:=h;unfold impl_Chain_fits.f at H;clear h;replace H:=zB H;obtain ⟨⟨t1,t2,t3,t4⟩,A3,H⟩:=H;(try dsimp only at H);replace H:=zI H;rcases H with ⟨rfl,H⟩|⟨rfl,H⟩
 ·(try dsimp only at H);obtain rfl:=Option.some.inj H;go_enter Tryz.func52,Tryz.ntmps52
  go_wp2_with (first|(refine zX (N:=2) (cs:=#[.int .i64 a0_0,.int .i64 a0_1,.int .i64 a0_2]) (t:=34) (h:=?_);intro gb1 hg _ hbox hb;have BK1:=qa hbox;have GE1:=qa (qz3:w.heap.size≤gb1);replace HB:=zs HB hb;clear hb hbox hg)|(refine zX (N:=3) (cs:=#[.int .i64 a1_0,.int .i64 a1_1,.int .i64 a1_2]) (t:=51) (h:=?_);intro gb2 hg _ hbox hb;have BK2:=qa hbox;have GE2:=qa (qz5:w.heap.size≤gb2);replace HB:=qa (below_step qz6 hb);have NB1_2:=qa (qz7:gb1≠gb2);have NB2_1:=qa (qz9:gb2≠gb1);replace BK1:=zBb BK1 hb;clear hb hbox hg;have hnb7:=NB1_2.out;have hnc7:=NB2_1.out;have ⟨_,_,_,_,_,_⟩:=zC3 BK1.out;have ⟨_,_,_,_,_,_⟩:=zC3 BK2.out)|(refine zL 73 (some 11) Tryz.func73 #[.agg #[.int .i64 a0_0,.int .i64 a0_1,.int .i64 a0_2],.int .i64 a1_0] (h:=?_);refine (impl_Chain_clue.calls k a0_0 a0_1 a0_2 a1_0 t1 t2 t3 true _ A3.out).mono ?_;rintro e _ ⟨rfl,hb⟩;refine ⟨_,rfl,?_⟩;replace BK1:=zBb BK1 hb;replace BK2:=zBb BK2 hb;replace HB:=qa (below_step qz11 hb);clear hb)|(refine zX (N:=5) (cs:=#[.int .i64 0,.int .i64 0,.int .i64 0]) (t:=51) (h:=?_);intro gb3 hg _ hbox hb;have BK3:=qa hbox;have GE3:=qa (qz10:w.heap.size≤gb3);replace HB:=qa (below_step qz11 hb);have NB1_3:=qa (qz7:gb1≠gb3);have NB3_1:=qa (qz9:gb3≠gb1);replace BK1:=zBb BK1 hb;have NB2_3:=qa (qz21:gb2≠gb3);have NB3_2:=qa (qz22:gb3≠gb2);replace BK2:=zBb BK2 hb;clear hb hbox hg;have hnb12:=NB3_1.out;have hnc12:=NB1_3.out;have hnb13:=NB3_2.out;have hnc13:=NB2_3.out;have ⟨_,_,_,_,_,_⟩:=zC3 BK3.out;have ⟨_,_,_,_,_,_⟩:=zC3 BK2.out))
  go_ret;exact ⟨qz15,qz16⟩
 (try dsimp only at H);obtain rfl:=Option.some.inj H;go_enter Tryz.func52,Tryz.ntmps52
 go_wp2_with (first|(refine zX (N:=2) (cs:=#[.int .i64 a0_0,.int .i64 a0_1,.int .i64 a0_2]) (t:=34) (h:=?_);intro gb1 hg _ hbox hb;have BK1:=qa hbox;have GE1:=qa (qz3:w.heap.size≤gb1);replace HB:=zs HB hb;clear hb hbox hg)|(refine zX (N:=3) (cs:=#[.int .i64 a1_0,.int .i64 a1_1,.int .i64 a1_2]) (t:=51) (h:=?_);intro gb2 hg _ hbox hb;have BK2:=qa hbox;have GE2:=qa (qz5:w.heap.size≤gb2);replace HB:=qa (below_step qz6 hb);have NB1_2:=qa (qz7:gb1≠gb2);have NB2_1:=qa (qz9:gb2≠gb1);replace BK1:=zBb BK1 hb;clear hb hbox hg;have hnb18:=NB1_2.out;have hnc18:=NB2_1.out;have ⟨_,_,_,_,_,_⟩:=zC3 BK1.out;have ⟨_,_,_,_,_,_⟩:=zC3 BK2.out)|(refine zL 73 (some 11) Tryz.func73 #[.agg #[.int .i64 a0_0,.int .i64 a0_1,.int .i64 a0_2],.int .i64 a1_0] (h:=?_);refine (impl_Chain_clue.calls k a0_0 a0_1 a0_2 a1_0 t1 t2 t3 false _ A3.out).mono ?_;rintro e _ ⟨rfl,hb⟩;refine ⟨_,rfl,?_⟩;replace BK1:=zBb BK1 hb;replace BK2:=zBb BK2 hb;replace HB:=qa (below_step qz11 hb);clear hb)|(refine zX (N:=5) (cs:=#[.int .i64 0,.int .i64 0,.int .i64 0]) (t:=51) (h:=?_);intro gb3 hg _ hbox hb;have BK3:=qa hbox;have GE3:=qa (qz10:w.heap.size≤gb3);replace HB:=qa (below_step qz11 hb);have NB1_3:=qa (qz7:gb1≠gb3);have NB3_1:=qa (qz9:gb3≠gb1);replace BK1:=zBb BK1 hb;have NB2_3:=qa (qz21:gb2≠gb3);have NB3_2:=qa (qz22:gb3≠gb2);replace BK2:=zBb BK2 hb;clear hb hbox hg;have hnb23:=NB3_1.out;have hnc23:=NB1_3.out;have hnb24:=NB3_2.out;have hnc24:=NB2_3.out;have ⟨_,_,_,_,_,_⟩:=zC3 BK3.out))
 go_ret;exact ⟨qz15,qz16⟩
theorem set3_cells {w:World} {g:Nat} {u0 u1 u2:Value} (v0 v1 v2:Value) (h0:w.cell? ⟨g,0,none⟩=some u0) (h1:w.cell? ⟨g,1,none⟩=some u1) (h2:w.cell? ⟨g,2,none⟩=some u2) :
    (((w.setCell ⟨g,0,none⟩ v0).setCell ⟨g,1,none⟩ v1).setCell ⟨g,2,none⟩ v2).cell? ⟨g,0,none⟩=some v0∧(((w.setCell ⟨g,0,none⟩ v0).setCell ⟨g,1,none⟩ v1).setCell ⟨g,2,none⟩ v2).cell? ⟨g,1,none⟩=some v1∧(((w.setCell ⟨g,0,none⟩ v0).setCell ⟨g,1,none⟩ v1).setCell ⟨g,2,none⟩ v2).cell? ⟨g,2,none⟩=some v2:=by
  have n10:(⟨g,1,none⟩:Addr)≠⟨g,0,none⟩:=by simp
  have n20:(⟨g,2,none⟩:Addr)≠⟨g,0,none⟩:=by simp
  have n21:(⟨g,2,none⟩:Addr)≠⟨g,1,none⟩:=by simp
  have n01:(⟨g,0,none⟩:Addr)≠⟨g,1,none⟩:=by simp
  have n02:(⟨g,0,none⟩:Addr)≠⟨g,2,none⟩:=by simp
  have n12:(⟨g,1,none⟩:Addr)≠⟨g,2,none⟩:=by simp
  refine ⟨?_,?_,?_⟩
  · rw [World.cell?_setCell_other (h:=n20),World.cell?_setCell_other (h:=n10),World.cell?_setCell_same (h:=h0)]
  · rw [World.cell?_setCell_other (h:=n21),World.cell?_setCell_same (h:=(World.cell?_setCell_other _ _ _ _ n01).trans h1)]
  · rw [World.cell?_setCell_same (h:=(World.cell?_setCell_other _ _ _ _ n12).trans ((World.cell?_setCell_other _ _ _ _ n02).trans h2))]
set_option maxHeartbeats 4000000 in
set_option maxRecDepth 100000 in
theorem so_closure (k:Nat) (x:S51) (y0 y1 y2:Int) (g:Nat) (r:Bool) (w:World) (hc:w.cell? ⟨g,0,none⟩=some (.int .i64 y0)∧w.cell? ⟨g,1,none⟩=some (.int .i64 y1)∧w.cell? ⟨g,2,none⟩=some (.int .i64 y2)) (h:impl_Chain_fits.f k y0 y1 y2 x.f0 x.f1 x.f2=some r) :
    Calls Tryz.prog 61 #[.agg #[.int .i64 x.f0,.int .i64 x.f1,.int .i64 x.f2],.pointer (some ⟨g,0,none⟩)] w fun e w'=>e=.returned (.bool (!r))∧Below w.heap.size w w':=by
  have hu51:=Tryz.underlying51
  have hu34:=Tryz.underlying34
  have hu26:=Tryz.underlying26
  have HB:=Aside0.mk (Below.refl w.heap.size w)
  have A:=Aside0.mk h
  clear h
  obtain ⟨hc0,hc1,hc2⟩:=hc
  have hg:=World.block_lt_of_cell? w _ hc0
  have hne:g≠w.heap.size:=Nat.ne_of_lt hg
  go_enter Tryz.func61,Tryz.ntmps61
  go_wp2_with (go_at_call 52;(with_reducible refine (impl_Chain_fits.calls k y0 y1 y2 x.f0 x.f1 x.f2 r _ A.out).mono ?_);rintro e w' ⟨rfl,hb⟩;have HB2:=Aside0.mk hb;clear hb)
  go_ret
  exact ⟨rfl,below_step (below_alloc HB.out _) HB2.out⟩
def impl_Clue_71.f (k:Nat) (l0:List S51) (a1_0:Int) (a1_1:Int) (a1_2:Int):Option Bool:=if l0.length≤1000000 then anyO (fun x=>(impl_Chain_fits.f k a1_0 a1_1 a1_2 x.f0 x.f1 x.f2).bind fun b=>some (!b)) l0 else none
theorem impl_Clue_71.mono:∀a0 a1 a2 a3 k,LeO (impl_Clue_71.f k a0 a1 a2 a3) (impl_Clue_71.f (k+1) a0 a1 a2 a3):=by
  intro a0 a1 a2 a3 k
  unfold impl_Clue_71.f
  refine LeO.ite (anyO_mono (fun x=>?_) _) (LeO.none _)
  exact LeO.bind (impl_Chain_fits.mono _ _ _ _ _ _ _) (fun _=>LeO.refl _)
theorem impl_Clue_71.calls (k:Nat) (g:Nat) (A0:Option Addr) (c0:Nat) (l0:List S51) (a1_0:Int) (a1_1:Int) (a1_2:Int) (r:Bool) (w:World) (hr0:Kd.C k51 w A0 l0.length l0) (hc:w.cell? ⟨g,0,none⟩=some (.int .i64 a1_0)∧w.cell? ⟨g,1,none⟩=some (.int .i64 a1_1)∧w.cell? ⟨g,2,none⟩=some (.int .i64 a1_2)) (h:impl_Clue_71.f k l0 a1_0 a1_1 a1_2=some r) :
    Calls Tryz.prog 48 #[.slice A0 l0.length c0,.func (.func 61) #[] #[.pointer (some ⟨g,0,none⟩)]] w fun e w'=>e=.returned (.bool r)∧Below w.heap.size w w':=by
 unfold impl_Clue_71.f at h;by_cases hl:l0.length≤1000000;rotate_left
 ·rw [if_neg hl] at h;cases h
 rw [if_pos hl] at h;refine containsFunc_calls 61 _ (fun args w=>by kernel_rfl) _ A0 c0 l0 r w hr0 hl (fun W x b hb hx=>?_) h;obtain ⟨b',hb',e⟩:=Option.bind_eq_some_iff.mp hx;obtain rfl:=Option.some.inj e;refine (so_closure k x a1_0 a1_1 a1_2 g b' W ⟨(hb.cell (World.block_lt_of_cell? w _ hc.1)).trans hc.1,(hb.cell (World.block_lt_of_cell? w _ hc.2.1)).trans hc.2.1,(hb.cell (World.block_lt_of_cell? w _ hc.2.2)).trans hc.2.2⟩ hb').mono ?_;rintro e w' ⟨rfl,hb2⟩;exact ⟨rfl,below_step hb hb2⟩
mutual
def impl_solutions.l0:Nat→Int→List (S51)→List (S34)→Int→Int→Option ((List (S34)))
  | 0,_,_,_,_,_=>none
  | k+1,x0,x1,x5,x10,x11=>if x11<x10 then (impl_solutions.l1 k x0 x1 x5 x11 x10 x11 (wrap64 (x0+1)) 0) else (some x5)
def impl_solutions.l1:Nat→Int→List (S51)→List (S34)→Int→Int→Int→Int→Int→Option ((List (S34)))
  | 0,_,_,_,_,_,_,_,_=>none
  | k+1,x0,x1,x5,x6,x10,x11,x15,x16=>if x16<x15 then ((impl_Clue_71.f k x1 x6 x16 x0).bind fun t305=>(if t305=true then (impl_solutions.l1 k x0 x1 x5 x6 x10 x11 x15 (wrap64 (x16+1))) else (if x5.length<5864062014805 then (impl_solutions.l1 k x0 x1 (x5++[(⟨x6,x16,x0⟩:S34)]) x6 x10 x11 x15 (wrap64 (x16+1))) else (none)))) else (impl_solutions.l0 k x0 x1 x5 x10 (wrap64 (x11+1)))
end
def impl_solutions.f (k:Nat) (a0:Int) (l1:List (S51)):Option ((List (S34))):=impl_solutions.l0 k a0 l1 ([]:List (S34)) (wrap64 (a0+1)) 0
theorem impl_solutions.mono_l:∀k,(∀y0 y1 y2 y3 y4,LeO (impl_solutions.l0 k y0 y1 y2 y3 y4) (impl_solutions.l0 (k+1) y0 y1 y2 y3 y4))∧(∀y0 y1 y2 y3 y4 y5 y6 y7,LeO (impl_solutions.l1 k y0 y1 y2 y3 y4 y5 y6 y7) (impl_solutions.l1 (k+1) y0 y1 y2 y3 y4 y5 y6 y7))
  | 0=>by (refine ⟨?_,?_⟩ <;> intros);all_goals (first|unfold impl_solutions.l0|unfold impl_solutions.l1);all_goals exact LeO.none _
  | k+1=>by
   obtain ⟨ih0,ih1⟩:=impl_solutions.mono_l k
   (refine ⟨?_,?_⟩ <;> intros)
   all_goals (first|unfold impl_solutions.l0|unfold impl_solutions.l1)
   all_goals repeat' first
    | with_reducible first|exact ih0 _ _ _ _ _|exact ih1 _ _ _ _ _ _ _ _|exact impl_Clue_71.mono _ _ _ _ _|exact LeO.refl _|exact LeO.none _|refine LeO.ite ?_ ?_|refine LeO.bind ?_ (fun _=>?_)
theorem impl_solutions.mono:∀a0 a1 k,LeO (impl_solutions.f k a0 a1) (impl_solutions.f (k+1) a0 a1):=by
  intro a0 a1 k
  obtain ⟨ih0,ih1⟩:=impl_solutions.mono_l k
  unfold impl_solutions.f
  repeat' first
   | with_reducible first|exact ih0 _ _ _ _ _|exact ih1 _ _ _ _ _ _ _ _|exact impl_Clue_71.mono _ _ _ _ _|exact LeO.refl _|exact LeO.none _|refine LeO.ite ?_ ?_|refine LeO.bind ?_ (fun _=>?_)
set_option maxHeartbeats 8000000 in
set_option maxRecDepth 100000 in
theorem impl_solutions.calls (k:Nat) (a0:Int) (A1:Option Addr) (c1:Nat) (l1:List (S51)) (r:List (S34)) (w:World) (hr1:Kd.C k51 w A1 l1.length l1) (hc1:l1.length≤c1) (h:impl_solutions.f k a0 l1=some r) :
    Calls Tryz.prog 37 #[.int .i64 a0,.slice A1 l1.length c1] w fun e w'=>∃v0_:Value,e=.returned (v0_)∧Kd.R k34 34 w' w.heap.size (fun _=>True) v0_ r∧Below w.heap.size w w':=by
 have hu34:=Tryz.underlying34;have HR1:=Aside0.mk hr1;have HC1:=Aside0.mk hc1;clear hr1 hc1;have HB:=qa (Below.refl w.heap.size w);have H:=h;unfold impl_solutions.f at H;clear h;have H':=Aside0.mk H;clear H;go_enter Tryz.func37,Tryz.ntmps37;go_wp2;go_loopg [5,11] k (fun kq v5 v11 w'=>∃(x5_1:List (S34)) (x11_1:Int),v11=.int .i64 x11_1∧Aside0 (impl_solutions.l0 kq a0 l1 x5_1 (wrap64 (a0+1)) x11_1=some r)∧Aside0 (kq≤k)∧Aside0 (Kd.R k34 34 w' w.heap.size (fun _=>True) v5 x5_1)∧Aside0 (Below w.heap.size w w'))
 case atStart=>exact ⟨(([]:List (S34))),(0),qz23,H',⟨Nat.le_refl _⟩,⟨qz24⟩,⟨qz4⟩⟩
 case round=>
  clear H';obtain ⟨x5_1,x11_1,rfl,HA,HK1,HO_5,HB⟩:=hrel
  cases gk with
  | zero=>exact absurd HA.out (by simp [impl_solutions.l0])
  | succ k1=>
   have H:=HA.out;clear HA;simp only [impl_solutions.l0] at H;replace H:=zD' H;rcases H with ⟨c3b0,H⟩|⟨c3b0,H⟩
   ·obtain rfl:=Option.some.inj H;go_wp2;go_ret;exact ⟨_,qz15,qz25,qz4⟩
   have H':=Aside0.mk H;clear H;go_wp2;go_loopg [5,16] k1 (fun kq v5 v16 w'=>∃(x5_2:List (S34)) (x16_2:Int),v16=.int .i64 x16_2∧Aside0 (impl_solutions.l1 kq a0 l1 x5_2 x11_1 (wrap64 (a0+1)) x11_1 (wrap64 (a0+1)) x16_2=some r)∧Aside0 (kq≤k1)∧Aside0 (Kd.R k34 34 w' w.heap.size (fun _=>True) v5 x5_2)∧Aside0 (Below w.heap.size w w'))
   case atStart=>exact ⟨(x5_1),(0),qz23,H',⟨Nat.le_refl _⟩,⟨qz25⟩,⟨qz4⟩⟩
   case round=>
    clear H';obtain ⟨x5_2,x16_2,rfl,HA,HK2,HO_5,HB⟩:=hrel
    cases gk with
    | zero=>exact absurd HA.out (by simp [impl_solutions.l1])
    | succ k2=>
     have H:=HA.out;clear HA;simp only [impl_solutions.l1] at H;replace H:=zD' H;rcases H with ⟨c4b0,H⟩|⟨c4b0,H⟩
     ·have H':=Aside0.mk H;clear H;go_wp2;go_roundg k2
      case measure=>have:=HK1.out;have:=HK2.out;omega
      case rel=>exact ⟨(x5_2),(wrap64 (x11_1+1)),qz23,H',⟨qz26⟩,⟨qz25⟩,⟨qz4⟩⟩
     replace H:=zB H;obtain ⟨t1,A5,H⟩:=H;replace H:=zI H;rcases H with ⟨rfl,H⟩|⟨rfl,H⟩
     ·(try dsimp only at H);have H':=Aside0.mk H;clear H
      go_wp2_with (first|(refine zX (N:=8) (cs:=#[.int .i64 0,.int .i64 0,.int .i64 0]) (t:=34) (h:=?_);intro gb1 hg _ hbox hb;replace HO_5:=qa (Kd.R_below (Kd.R_elderB qz25 gb1 (Nat.le_of_eq hg.symm)) hb);have BK1:=qa hbox;have GE1:=qa (qz3:w.heap.size≤gb1);replace HB:=zs HB hb;clear hb hbox hg;have ⟨_,_,_,_,_,_⟩:=zC3 BK1.out)|(refine zL 48 (some 25) Tryz.func48 #[.slice A1 l1.length c1,.func (.func 61) #[] #[.pointer (some ⟨gb1,0,none⟩)]] (h:=?_);refine (impl_Clue_71.calls k2 gb1 _ _ l1 x11_1 x16_2 a0 true _ (Kd.C_below HR1.out qz6) (set3_cells (u0:=.int .i64 0) (u1:=.int .i64 0) (u2:=.int .i64 0) _ _ _ (by assumption) (by assumption) (by assumption)) A5.out).mono ?_;rintro e _ ⟨rfl,hb⟩;refine ⟨_,rfl,?_⟩;replace HO_5:=qa (Kd.R_below qz27 hb);replace BK1:=qa (blk_below (g:=gb1) (o:=.cells #[.int .i64 x11_1,.int .i64 x16_2,.int .i64 a0] 34 (0,0)) qz28 hb);replace HB:=qa (below_step qz6 hb);clear hb))
      go_roundg k2
      case measure=>have:=HK1.out;have:=HK2.out;omega
      case rel=>exact ⟨(x5_2),(wrap64 (x16_2+1)),qz23,H',⟨qz26⟩,⟨qz29⟩,⟨qz6⟩⟩
     (try dsimp only at H);replace H:=zAg' H;obtain ⟨LMc10,H⟩:=H;obtain ⟨y1,hy1⟩:∃y_:List (S34),y_=(x5_2++[(⟨x11_1,x16_2,a0⟩:S34)]):=⟨_,rfl⟩;replace H:(impl_solutions.l1 k2 a0 l1 y1 x11_1 (wrap64 (a0+1)) x11_1 (wrap64 (a0+1)) (wrap64 (x16_2+1)))=some r:=by first|(rw [hy1];with_reducible exact H)|(have H2_:=(Option.bind_some _ _).symm.trans H;rw [hy1];with_reducible exact H2_)|(have H2_:=(Option.bind_some _ _).symm.trans H;with_reducible exact H2_)|with_reducible exact H|(rw [hy1];exact H)|exact H
     have Ny1:=Aside0.mk hy1;clear hy1;have H':=Aside0.mk H;clear H
     go_wp2_with (first|(refine zX (N:=8) (cs:=#[.int .i64 0,.int .i64 0,.int .i64 0]) (t:=34) (h:=?_);intro gb1 hg _ hbox hb;replace HO_5:=qa (Kd.R_below (Kd.R_elderB qz25 gb1 (Nat.le_of_eq hg.symm)) hb);have BK1:=qa hbox;have GE1:=qa (qz3:w.heap.size≤gb1);replace HB:=zs HB hb;clear hb hbox hg;have ⟨_,_,_,_,_,_⟩:=zC3 BK1.out)|(refine zL 48 (some 25) Tryz.func48 #[.slice A1 l1.length c1,.func (.func 61) #[] #[.pointer (some ⟨gb1,0,none⟩)]] (h:=?_);refine (impl_Clue_71.calls k2 gb1 _ _ l1 x11_1 x16_2 a0 false _ (Kd.C_below HR1.out qz6) (set3_cells (u0:=.int .i64 0) (u1:=.int .i64 0) (u2:=.int .i64 0) _ _ _ (by assumption) (by assumption) (by assumption)) A5.out).mono ?_;rintro e _ ⟨rfl,hb⟩;refine ⟨_,rfl,?_⟩;replace HO_5:=qa (Kd.R_below qz27 hb);replace BK1:=qa (blk_below (g:=gb1) (o:=.cells #[.int .i64 x11_1,.int .i64 x16_2,.int .i64 a0] 34 (0,0)) qz28 hb);replace HB:=qa (below_step qz6 hb);clear hb;have ⟨_,_,_,_,_,_⟩:=zC3 BK1.out)|((with_reducible refine gate_builtin (b:=.append) (xs:=#[.tmp 27,.tmp 29]) rfl ?_);at_builtin;refine Kd.R_append k34 (w0:=w) w.heap.size rfl (.tmp 27) (.tmp 29) 28 34 (.agg #[(.int .i64 0),(.int .i64 0),(.int .i64 0)]) 24 rfl Tryz.underlying28 info34 rfl (by decide) (by omega) u5 x5_2 (⟨x11_1,x16_2,a0⟩:S34) [.int .i64 x11_1,.int .i64 x16_2,.int .i64 a0] (fun k_=>k_≠gb1) (fun _=>False) rfl rfl ?aP (fun _ hk=>hk.elim) ?aF ?aO ?aB ?aS ?aL ?_;(case aP=>exact k34_mkM _ _ _ (⟨x11_1,x16_2,a0⟩:S34));(case aB=>exact qz30);(case aF=>exact (fun k_ hk=>Kd.freshB (g:=gb1) (o:=.cells #[.int .i64 x11_1,.int .i64 x16_2,.int .i64 a0] 34 (0,0)) qz8 k_ hk));(case aO=>exact (by (with_reducible repeat (first|apply Kd.R_alloc|apply Kd.R_drewN|apply Kd.R_drew));exact Kd.R_mono HO_5.out (fun _ hk=>hk.2)));(case aS=>exact qz31);(case aL=>have:=LMc10.out;omega);intro v307 w15 ho hb hg hat;rw [← Ny1.out] at ho;replace BK1:=qa (blk_grown (g:=gb1) (o:=.cells #[.int .i64 x11_1,.int .i64 x16_2,.int .i64 a0] 34 (0,0)) qz8 hg (Kd.R_away HO_5.out (fun _ hk=>hk.2)));replace HB:=qa hb;have HO1:=qa ho;clear HO_5;clear ho hb hg hat))
     go_roundg k2
     case measure=>have:=HK1.out;have:=HK2.out;omega
     case rel=>exact ⟨(y1),(wrap64 (x16_2+1)),qz23,H',⟨qz26⟩,⟨qz32⟩,⟨qz6⟩⟩
def impl_Solutions.f (k:Nat) (a0_0:Int) (l0_1:List (S51)):Option ((List (S34))×Bool):=(impl_IsPuzzle.f k a0_0 l0_1).bind fun t310=>(if t310=true then ((impl_solutions.f k a0_0 l0_1).bind fun t311=>(some (t311,true))) else (some (([]:List (S34)),false)))
theorem impl_Solutions.mono:∀a0 a1 k,LeO (impl_Solutions.f k a0 a1) (impl_Solutions.f (k+1) a0 a1):=by
  intro a0 a1 k
  unfold impl_Solutions.f
  repeat' first
   | with_reducible first|exact impl_IsPuzzle.mono _ _ _|exact impl_solutions.mono _ _ _|exact LeO.refl _|exact LeO.none _|refine LeO.ite ?_ ?_|refine LeO.bind ?_ (fun _=>?_)
set_option maxHeartbeats 8000000 in
set_option maxRecDepth 100000 in
theorem impl_Solutions.calls (k:Nat) (a0_0:Int) (A0_1:Option Addr) (c0_1:Nat) (l0_1:List (S51)) (r1:List (S34)) (r2:Bool) (w:World) (hr0_1:Kd.C k51 w A0_1 l0_1.length l0_1) (hc0_1:l0_1.length≤c0_1) (h:impl_Solutions.f k a0_0 l0_1=some (r1,r2)) :
    Calls Tryz.prog 6 #[.agg #[.int .i64 a0_0,.slice A0_1 l0_1.length c0_1]] w fun e w'=>∃v0_:Value,e=.returned (.tuple #[v0_,.bool r2])∧Kd.R k34 34 w' w.heap.size (fun _=>True) v0_ r1∧Below w.heap.size w w':=by
 have hu26:=Tryz.underlying26;have HR0_1:=Aside0.mk hr0_1;have HC0_1:=Aside0.mk hc0_1;clear hr0_1 hc0_1;have HB:=qa (Below.refl w.heap.size w);have H:=h;unfold impl_Solutions.f at H;clear h;replace H:=zB H;obtain ⟨t1,A2,H⟩:=H;replace H:=zI' H;rcases H with ⟨rfl,H⟩|⟨rfl,H⟩
 ·(try dsimp only at H);simp only [Option.some.injEq,Prod.mk.injEq] at H;obtain ⟨rfl,rfl⟩:=H;go_enter Tryz.func6,Tryz.ntmps6
  go_wp2_with (first|(refine zX (N:=1) (cs:=#[.int .i64 a0_0,.slice A0_1 l0_1.length c0_1]) (t:=26) (h:=?_);intro gb1 hg _ hbox hb;have BK1:=qa hbox;have GE1:=qa (qz3:w.heap.size≤gb1);replace HB:=zs HB hb;clear hb hbox hg;have ⟨_,_,_,_⟩:=zC2 BK1.out)|(refine zL 26 (some 5) Tryz.func26 #[.agg #[.int .i64 a0_0,.slice A0_1 l0_1.length c0_1]] (h:=?_);refine (impl_IsPuzzle.calls k a0_0 _ _ l0_1 false _ qz33 HC0_1.out A2.out).mono ?_;rintro e _ ⟨rfl,hb⟩;refine ⟨_,rfl,?_⟩;replace BK1:=zBb BK1 hb;replace HB:=qa (below_step qz6 hb);clear hb))
  go_ret2;exact ⟨_,qz15,qz24,qz6⟩
 (try dsimp only at H);replace H:=zB H;obtain ⟨t2,A4,H⟩:=H;simp only [Option.some.injEq,Prod.mk.injEq] at H;obtain ⟨rfl,rfl⟩:=H;go_enter Tryz.func6,Tryz.ntmps6
 go_wp2_with (first|(refine zX (N:=1) (cs:=#[.int .i64 a0_0,.slice A0_1 l0_1.length c0_1]) (t:=26) (h:=?_);intro gb1 hg _ hbox hb;have BK1:=qa hbox;have GE1:=qa (qz3:w.heap.size≤gb1);replace HB:=zs HB hb;clear hb hbox hg;have ⟨_,_,_,_⟩:=zC2 BK1.out)|(refine zL 26 (some 5) Tryz.func26 #[.agg #[.int .i64 a0_0,.slice A0_1 l0_1.length c0_1]] (h:=?_);refine (impl_IsPuzzle.calls k a0_0 _ _ l0_1 true _ qz33 HC0_1.out A2.out).mono ?_;rintro e _ ⟨rfl,hb⟩;refine ⟨_,rfl,?_⟩;replace BK1:=zBb BK1 hb;replace HB:=qa (below_step qz6 hb);clear hb;have ⟨_,_,_,_⟩:=zC2 BK1.out)|(refine zL 37 (some 11) Tryz.func37 #[.int .i64 a0_0,.slice A0_1 l0_1.length c0_1] (h:=?_);refine (impl_solutions.calls k a0_0 _ _ l0_1 t2 _ qz33 HC0_1.out A4.out).mono ?_;rintro e _ ⟨v312,rfl,ho0,hb⟩;refine ⟨_,rfl,?_⟩;have HO1:=qa (Kd.R_lower ho0 (below_size qz6));replace BK1:=zBb BK1 hb;replace HB:=qa (below_step qz6 hb);clear hb ho0))
 go_ret2;exact ⟨_,qz15,qz34,qz6⟩
mutual
def spec_pzClue.j0:Nat→Bool→Int→Int→Int→Option (Bool)
  | 0,_,_,_,_=>none
  | k+1,x12,x315000,x315001,x315002=>if x12=true then (some false) else (if x315000=0 then (if x315001=0 then (some (decide (x315002<2))) else (some false)) else (if x315000=1 then (spec_pzClue.j1 k x315000 (x315000==1) x315000 x315001 x315002) else (if x315000=2 then (spec_pzClue.j1 k x315000 (x315000==2) x315000 x315001 x315002) else (spec_pzClue.j1 k x315000 (x315000==5) x315000 x315001 x315002))))
def spec_pzClue.j1:Nat→Int→Bool→Int→Int→Int→Option (Bool)
  | 0,_,_,_,_,_=>none
  | k+1,x14,x25,x315000,x315001,x315002=>if x25=true then (some (x315001==0)) else (if x14=3 then (some (decide (x315002>0))) else (if x14=4 then (some (decide (x315002>0))) else (some false)))
end
def spec_pzClue.f (k:Nat) (a0_0:Int) (a0_1:Int) (a0_2:Int):Option (Bool):=(spec_l1In.f a0_1 0 100).bind fun t315=>(if t315=true then ((spec_l1In.f a0_2 0 100).bind fun t316=>(spec_pzClue.j0 k (!t316) a0_0 a0_1 a0_2)) else (spec_pzClue.j0 k true a0_0 a0_1 a0_2))
theorem spec_pzClue.mono_l:∀k,(∀y0 y1 y2 y3,LeO (spec_pzClue.j0 k y0 y1 y2 y3) (spec_pzClue.j0 (k+1) y0 y1 y2 y3))∧(∀y0 y1 y2 y3 y4,LeO (spec_pzClue.j1 k y0 y1 y2 y3 y4) (spec_pzClue.j1 (k+1) y0 y1 y2 y3 y4))
  | 0=>by (refine ⟨?_,?_⟩ <;> intros);all_goals (first|unfold spec_pzClue.j0|unfold spec_pzClue.j1);all_goals exact LeO.none _
  | k+1=>by
   obtain ⟨ih0,ih1⟩:=spec_pzClue.mono_l k
   (refine ⟨?_,?_⟩ <;> intros)
   all_goals (first|unfold spec_pzClue.j0|unfold spec_pzClue.j1)
   all_goals repeat' first
    | with_reducible first|exact ih0 _ _ _ _|exact ih1 _ _ _ _ _|exact LeO.refl _|exact LeO.none _|refine LeO.ite ?_ ?_|refine LeO.bind ?_ (fun _=>?_)
theorem spec_pzClue.mono:∀a0 a1 a2 k,LeO (spec_pzClue.f k a0 a1 a2) (spec_pzClue.f (k+1) a0 a1 a2):=by
  intro a0 a1 a2 k
  obtain ⟨ih0,ih1⟩:=spec_pzClue.mono_l k
  unfold spec_pzClue.f
  repeat' first
   | with_reducible first|exact ih0 _ _ _ _|exact ih1 _ _ _ _ _|exact LeO.refl _|exact LeO.none _|refine LeO.ite ?_ ?_|refine LeO.bind ?_ (fun _=>?_)
set_option maxHeartbeats 8000000 in
set_option maxRecDepth 100000 in
theorem spec_pzClue.calls (k:Nat) (a0_0:Int) (a0_1:Int) (a0_2:Int) (r:Bool) (w:World) (h:spec_pzClue.f k a0_0 a0_1 a0_2=some r) :
    Calls Tryz.prog 63 #[.agg #[.int .i64 a0_0,.int .i64 a0_1,.int .i64 a0_2]] w fun e w'=>e=.returned (.bool r)∧Below w.heap.size w w':=by
 have hu51:=Tryz.underlying51;have HB:=qa (Below.refl w.heap.size w);have H:=h;unfold spec_pzClue.f at H;clear h;have HC2:=Aside0.mk H;clear H;go_enter Tryz.func63,Tryz.ntmps63;go_upto_region 1 with (first|(refine zX (N:=1) (cs:=#[.int .i64 a0_0,.int .i64 a0_1,.int .i64 a0_2]) (t:=51) (h:=?_);intro gb1 hg _ hbox hb;have BK1:=qa hbox;have GE1:=qa (qz3:w.heap.size≤gb1);replace HB:=zs HB hb;clear hb hbox hg));(try simp only [Act.put,List.setIfInBounds_toArray,List.set_cons_zero,List.set_cons_succ]);go_cut [12] (fun v12 wc=>∃(kq:Nat) (x12_1:Bool),v12=.bool x12_1∧Aside0 (spec_pzClue.j0 kq x12_1 a0_0 a0_1 a0_2=some r)∧Aside0 (kq≤k)∧Aside0 (wc.heap[gb1]? = some (.cells #[.int .i64 a0_0,.int .i64 a0_1,.int .i64 a0_2] 51 (0,0)))∧Aside0 (Below w.heap.size w wc))
 case first=>
  have H:=HC2.out;clear HC2;replace H:=zB H;obtain ⟨t1,A4,H⟩:=H;replace H:=zI' H;rcases H with ⟨rfl,H⟩|⟨rfl,H⟩
  ·(try dsimp only at H);have H':=Aside0.mk H;clear H;have ⟨_,_,_,_,_,_⟩:=zC3 BK1.out;go_wp2_with (first|(refine zL 84 (some 5) Tryz.func84 #[.int .i64 a0_1,.int .i64 0,.int .i64 100] (h:=?_);refine (spec_l1In.calls a0_1 0 100 false _ A4.out).mono ?_;rintro e w' ⟨rfl,⟨nd,rfl⟩⟩;refine ⟨_,rfl,?_⟩));go_meet
   case rel=>exact ⟨_,(true),qz23,H',⟨qz35⟩,⟨qz8⟩,⟨qz6⟩⟩
  (try dsimp only at H);replace H:=zB H;obtain ⟨t2,A6,H⟩:=H;have H':=Aside0.mk H;clear H;have ⟨_,_,_,_,_,_⟩:=zC3 BK1.out;go_wp2_with (first|(refine zL 84 (some 5) Tryz.func84 #[.int .i64 a0_1,.int .i64 0,.int .i64 100] (h:=?_);refine (spec_l1In.calls a0_1 0 100 true _ A4.out).mono ?_;rintro e w' ⟨rfl,⟨nd,rfl⟩⟩;refine ⟨_,rfl,?_⟩)|(go_at_call 84;(with_reducible refine (spec_l1In.calls a0_2 0 100 t2 _ A6.out).mono ?_);rintro e w' ⟨rfl,⟨nd,rfl⟩⟩));go_meet
  case rel=>exact ⟨_,(!t2),qz23,H',⟨qz35⟩,⟨qz8⟩,⟨qz6⟩⟩
 case rest=>
  clear HC2;obtain ⟨kq,x12_1,rfl,HA,HJ1,BK1,HB⟩:=hcut
  cases kq with
  | zero=>exact absurd HA.out (by simp [spec_pzClue.j0])
  | succ kj1=>
   have H:=HA.out;clear HA;simp only [spec_pzClue.j0] at H;replace H:=zI H;rcases H with ⟨rfl,H⟩|⟨rfl,H⟩
   ·(try dsimp only at H);obtain rfl:=Option.some.inj H;go_wp2;go_ret;exact ⟨qz15,qz6⟩
   (try dsimp only at H);replace H:=zS H;rcases H with ⟨c10,H⟩|⟨c10,H⟩
   ·have ⟨c10b0,c10b1⟩:=zEq c10;clear c10;replace H:=zS' H;rcases H with ⟨c11,H⟩|⟨c11,H⟩
    ·have ⟨c11b0,c11b1⟩:=zNe c11;obtain rfl:=Option.some.inj H;have ⟨_,_,_,_,_,_⟩:=zC3 BK1.out;go_wp2;go_ret;exact ⟨qz15,qz6⟩
    have ⟨c11b0,c11b1⟩:=zEq c11;clear c11;obtain rfl:=Option.some.inj H;have ⟨_,_,_,_,_,_⟩:=zC3 BK1.out;go_wp2;go_ret;exact ⟨qz15,qz6⟩
   have ⟨c10b0,c10b1⟩:=zNe c10;have HC14:=Aside0.mk H;clear H;have ⟨_,_,_,_,_,_⟩:=zC3 BK1.out;go_upto_if 25 with (fail);go_cut [25] (fun v25 wc=>∃(kq:Nat) (x25_13:Bool),v25=.bool x25_13∧Aside0 (spec_pzClue.j1 kq a0_0 x25_13 a0_0 a0_1 a0_2=some r)∧Aside0 (kq≤kj1)∧Aside0 (wc.heap[gb1]? = some (.cells #[.int .i64 a0_0,.int .i64 a0_1,.int .i64 a0_2] 51 (0,0)))∧Aside0 (Below w.heap.size w wc))
   case first=>
    have H:=HC14.out;clear HC14;replace H:=zS H;rcases H with ⟨c16,H⟩|⟨c16,H⟩
    ·have ⟨c16b0,c16b1⟩:=zEq c16;clear c16;(first|rw [c16b0]|(simp only [i64_w,i32_w];rw [c16b0])|skip);have H':=Aside0.mk H;clear H;go_wp2;go_meet
     case rel=>exact ⟨_,((a0_0==1)),qz23,H',⟨qz36⟩,⟨qz8⟩,⟨qz6⟩⟩
    have ⟨c16b0,c16b1⟩:=zNe c16;(first|rw [c16b0]|(simp only [i64_w,i32_w];rw [c16b0])|skip);replace H:=zS' H;rcases H with ⟨c17,H⟩|⟨c17,H⟩
    ·have ⟨c17b0,c17b1⟩:=zNe c17;have H':=Aside0.mk H;clear H;go_wp2;go_meet
     case rel=>exact ⟨_,((a0_0==5)),qz23,H',⟨qz36⟩,⟨qz8⟩,⟨qz6⟩⟩
    have ⟨c17b0,c17b1⟩:=zEq c17;clear c17;have H':=Aside0.mk H;clear H;go_wp2;go_meet
    case rel=>exact ⟨_,((a0_0==2)),qz23,H',⟨qz36⟩,⟨qz8⟩,⟨qz6⟩⟩
   case rest=>
    clear HC14;obtain ⟨kq,x25_13,rfl,HA,HJ13,BK1,HB⟩:=hcut
    cases kq with
    | zero=>exact absurd HA.out (by simp [spec_pzClue.j1])
    | succ kj13=>
     have H:=HA.out;clear HA;simp only [spec_pzClue.j1] at H;replace H:=zI H;rcases H with ⟨rfl,H⟩|⟨rfl,H⟩
     ·(try dsimp only at H);obtain rfl:=Option.some.inj H;have ⟨_,_,_,_,_,_⟩:=zC3 BK1.out;go_wp2;go_ret;exact ⟨qz15,qz6⟩
     (try dsimp only at H);replace H:=zS H;rcases H with ⟨c20,H⟩|⟨c20,H⟩
     ·have ⟨c20b0,c20b1⟩:=zEq c20;clear c20;obtain rfl:=Option.some.inj H;have ⟨_,_,_,_,_,_⟩:=zC3 BK1.out;go_wp2;go_ret;exact ⟨qz15,qz6⟩
     have ⟨c20b0,c20b1⟩:=zNe c20;replace H:=zS' H;rcases H with ⟨c22,H⟩|⟨c22,H⟩
     ·have ⟨c22b0,c22b1⟩:=zNe c22;obtain rfl:=Option.some.inj H;go_wp2;go_ret;exact ⟨qz15,qz6⟩
     have ⟨c22b0,c22b1⟩:=zEq c22;clear c22;obtain rfl:=Option.some.inj H;have ⟨_,_,_,_,_,_⟩:=zC3 BK1.out;go_wp2;go_ret;exact ⟨qz15,qz6⟩
end Go.Proofs.YtdphjeiccokhnaaGreatDoor.QFnChainsGuessed
