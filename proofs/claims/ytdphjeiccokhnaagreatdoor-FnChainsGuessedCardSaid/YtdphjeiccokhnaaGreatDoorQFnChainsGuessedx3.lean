/- The functions that a law reaches, as plain Lean functions, and their walks. Written by a program of this session, turned out of the kit's print. Conditions: those that each theorem names. -/
import Derived.Test.YtdphjeiccokhnaaGreatDoorMac
import Derived.Test.YtdphjeiccokhnaaGreatDoorQFnChainsGuessedx0
namespace Go.Proofs.YtdphjeiccokhnaaGreatDoor.QFnChainsGuessed
open Go.RowKit Go.Proofs.YtdphjeiccokhnaaGreatDoorW.PrintWords Go.Proofs.YtdphjeiccokhnaaGreatDoorW.PrintLast Go.Proofs.YtdphjeiccokhnaaGreatDoorW.PrintMore Go.Proofs.YtdphjeiccokhnaaGreatDoor.Mac
attribute [local go_sem] max2_int min2_int max_two min_two max_three min_three max_four min_four
attribute [local go_sem] Go.Proofs.YtdphjeiccokhnaaGreatDoor.Kit.isSome_setCell
set_option linter.unusedVariables false
set_option linter.unusedSimpArgs false
def laws_big.f (l0:List Int) (l1:List Int):Option (Bool):=if (l0.length:Int)>1048576 then (some true) else (some (decide ((l1.length:Int)>(wrap64 (1048576 - (l0.length:Int))))))
set_option maxHeartbeats 8000000 in
set_option maxRecDepth 100000 in
theorem laws_big.calls (A0:Option Addr) (c0:Nat) (l0:List Int) (A1:Option Addr) (c1:Nat) (l1:List Int) (r:Bool) (w:World) (hr0:Kd.C (Kd.int .u8) w A0 l0.length l0) (hc0:l0.length≤c0) (hr1:Kd.C (Kd.int .u8) w A1 l1.length l1) (hc1:l1.length≤c1) (h:laws_big.f l0 l1=some r) :
    Calls Tryz.prog 4 #[.slice A0 l0.length c0,.slice A1 l1.length c1] w fun e w'=>e=.returned (.bool r)∧Drawn0 w w':=by
 have HR0:=Aside0.mk hr0;have HC0:=Aside0.mk hc0;clear hr0 hc0;have HR1:=Aside0.mk hr1;have HC1:=Aside0.mk hc1;clear hr1 hc1;have H:=h;unfold laws_big.f at H;clear h;replace H:=zS H;rcases H with ⟨c3,H⟩|⟨c3,H⟩
 ·have c3b0:=decide_eq_true c3;have c3b1:decide (1048576<l0.length)=true:=decide_eq_true (by omega);clear c3;obtain rfl:=Option.some.inj H;go_enter Tryz.func4,Tryz.ntmps4;go_wp2;go_ret;exact ⟨qz23,qz85⟩
 have c3b0:=decide_eq_false c3;have c3b1:decide (1048576<l0.length)=false:=decide_eq_false (by omega);clear c3;obtain rfl:=Option.some.inj H;go_enter Tryz.func4,Tryz.ntmps4;go_wp2;go_ret;exact ⟨qz23,qz85⟩
def spec_l1In.f (a0:Int) (a1:Int) (a2:Int):Option (Bool):=if a0≥a1 then (some (decide (a0≤a2))) else (some false)
set_option maxHeartbeats 8000000 in
set_option maxRecDepth 100000 in
theorem spec_l1In.calls (a0:Int) (a1:Int) (a2:Int) (r:Bool) (w:World) (h:spec_l1In.f a0 a1 a2=some r) :
    Calls Tryz.prog 84 #[.int .i64 a0,.int .i64 a1,.int .i64 a2] w fun e w'=>e=.returned (.bool r)∧Drawn0 w w':=by
 have H:=h;unfold spec_l1In.f at H;clear h;replace H:=zD H;rcases H with ⟨c4b0,H⟩|⟨c4b0,H⟩
 ·obtain rfl:=Option.some.inj H;go_enter Tryz.func84,Tryz.ntmps84;go_wp2;go_ret;exact ⟨qz23,qz85⟩
 obtain rfl:=Option.some.inj H;go_enter Tryz.func84,Tryz.ntmps84;go_wp2;go_ret;exact ⟨qz23,qz85⟩
def spec_pzOf.f (a0:Int):Option (Bool):=(spec_l1In.f a0 1 8).bind fun t101=>(some t101)
set_option maxHeartbeats 8000000 in
set_option maxRecDepth 100000 in
theorem spec_pzOf.calls (a0:Int) (r:Bool) (w:World) (h:spec_pzOf.f a0=some r) :
    Calls Tryz.prog 62 #[.int .i64 a0] w fun e w'=>e=.returned (.bool r)∧Drawn0 w w':=by
 have H:=h;unfold spec_pzOf.f at H;clear h;replace H:=zB H;obtain ⟨t1,A2,H⟩:=H;obtain rfl:=Option.some.inj H;go_enter Tryz.func62,Tryz.ntmps62;go_wp2_with (first|(refine zL 84 (some 4) Tryz.func84 #[.int .i64 a0,.int .i64 1,.int .i64 8] (h:=?_);refine (spec_l1In.calls a0 1 8 t1 _ A2.out).mono ?_;rintro e w' ⟨rfl,⟨nd,rfl⟩⟩;refine ⟨_,rfl,?_⟩));go_ret;exact ⟨qz23,qz85⟩
def spec_cnGood.f (a0_0:Int) (a0_1:Int) (a0_2:Int):Option (Bool):=(spec_l1In.f a0_2 1 10).bind fun t103=>(if t103=true then ((spec_l1In.f a0_0 0 a0_2).bind fun t104=>(if t104=true then ((spec_l1In.f a0_1 0 a0_2).bind fun t105=>(some t105)) else (some false))) else (some false))
set_option maxHeartbeats 8000000 in
set_option maxRecDepth 100000 in
theorem spec_cnGood.calls (a0_0:Int) (a0_1:Int) (a0_2:Int) (r:Bool) (w:World) (h:spec_cnGood.f a0_0 a0_1 a0_2=some r) :
    Calls Tryz.prog 127 #[.agg #[.int .i64 a0_0,.int .i64 a0_1,.int .i64 a0_2]] w fun e w'=>e=.returned (.bool r)∧Below w.heap.size w w':=by
 have hu34:=Tryz.underlying34;have HB:=qa (Below.refl w.heap.size w);have H:=h;unfold spec_cnGood.f at H;clear h;replace H:=zB H;obtain ⟨t1,A2,H⟩:=H;replace H:=zI' H;rcases H with ⟨rfl,H⟩|⟨rfl,H⟩
 ·(try dsimp only at H);obtain rfl:=Option.some.inj H;go_enter Tryz.func127,Tryz.ntmps127
  go_wp2_with (first|(refine zX (N:=1) (cs:=#[.int .i64 a0_0,.int .i64 a0_1,.int .i64 a0_2]) (t:=34) (h:=?_);intro gb1 hg _ hbox hb;have BK1:=qa hbox;have GE1:=qa (qz3:w.heap.size≤gb1);replace HB:=zs HB hb;clear hb hbox hg;have ⟨_,_,_,_,_,_⟩:=zC3 BK1.out)|(refine zL 84 (some 5) Tryz.func84 #[.int .i64 a0_2,.int .i64 1,.int .i64 10] (h:=?_);refine (spec_l1In.calls a0_2 1 10 false _ A2.out).mono ?_;rintro e w' ⟨rfl,⟨nd,rfl⟩⟩;refine ⟨_,rfl,?_⟩));go_ret;exact ⟨qz15,qz6⟩
 (try dsimp only at H);replace H:=zB H;obtain ⟨t2,A4,H⟩:=H;replace H:=zI' H;rcases H with ⟨rfl,H⟩|⟨rfl,H⟩
 ·(try dsimp only at H);obtain rfl:=Option.some.inj H;go_enter Tryz.func127,Tryz.ntmps127
  go_wp2_with (first|(refine zX (N:=1) (cs:=#[.int .i64 a0_0,.int .i64 a0_1,.int .i64 a0_2]) (t:=34) (h:=?_);intro gb1 hg _ hbox hb;have BK1:=qa hbox;have GE1:=qa (qz3:w.heap.size≤gb1);replace HB:=zs HB hb;clear hb hbox hg;have ⟨_,_,_,_,_,_⟩:=zC3 BK1.out)|(refine zL 84 (some 5) Tryz.func84 #[.int .i64 a0_2,.int .i64 1,.int .i64 10] (h:=?_);refine (spec_l1In.calls a0_2 1 10 true _ A2.out).mono ?_;rintro e w' ⟨rfl,⟨nd,rfl⟩⟩;refine ⟨_,rfl,?_⟩)|(go_at_call 84;(with_reducible refine (spec_l1In.calls a0_0 0 a0_2 false _ A4.out).mono ?_);rintro e w' ⟨rfl,⟨nd,rfl⟩⟩));go_ret;exact ⟨qz15,qz6⟩
 (try dsimp only at H);replace H:=zB H;obtain ⟨t3,A6,H⟩:=H;obtain rfl:=Option.some.inj H;go_enter Tryz.func127,Tryz.ntmps127
 go_wp2_with (first|(refine zX (N:=1) (cs:=#[.int .i64 a0_0,.int .i64 a0_1,.int .i64 a0_2]) (t:=34) (h:=?_);intro gb1 hg _ hbox hb;have BK1:=qa hbox;have GE1:=qa (qz3:w.heap.size≤gb1);replace HB:=zs HB hb;clear hb hbox hg;have ⟨_,_,_,_,_,_⟩:=zC3 BK1.out)|(refine zL 84 (some 5) Tryz.func84 #[.int .i64 a0_2,.int .i64 1,.int .i64 10] (h:=?_);refine (spec_l1In.calls a0_2 1 10 true _ A2.out).mono ?_;rintro e w' ⟨rfl,⟨nd,rfl⟩⟩;refine ⟨_,rfl,?_⟩)|(go_at_call 84;(with_reducible refine (spec_l1In.calls a0_0 0 a0_2 true _ A4.out).mono ?_);rintro e w' ⟨rfl,⟨nd,rfl⟩⟩)|(go_at_call 84;(with_reducible refine (spec_l1In.calls a0_1 0 a0_2 t3 _ A6.out).mono ?_);rintro e w' ⟨rfl,⟨nd,rfl⟩⟩))
 go_ret;exact ⟨qz15,qz6⟩
def spec_pzHidden.f (a0_0:Int) (a0_1:Int) (a0_2:Int):Option (Bool):=(spec_cnGood.f a0_0 a0_1 a0_2).bind fun t107=>(if t107=true then ((spec_pzOf.f a0_2).bind fun t108=>(some t108)) else (some false))
set_option maxHeartbeats 8000000 in
set_option maxRecDepth 100000 in
theorem spec_pzHidden.calls (a0_0:Int) (a0_1:Int) (a0_2:Int) (r:Bool) (w:World) (h:spec_pzHidden.f a0_0 a0_1 a0_2=some r) :
    Calls Tryz.prog 98 #[.agg #[.int .i64 a0_0,.int .i64 a0_1,.int .i64 a0_2]] w fun e w'=>e=.returned (.bool r)∧Below w.heap.size w w':=by
 have hu34:=Tryz.underlying34;have HB:=qa (Below.refl w.heap.size w);have H:=h;unfold spec_pzHidden.f at H;clear h;replace H:=zB H;obtain ⟨t1,A2,H⟩:=H;replace H:=zI' H;rcases H with ⟨rfl,H⟩|⟨rfl,H⟩
 ·(try dsimp only at H);obtain rfl:=Option.some.inj H;go_enter Tryz.func98,Tryz.ntmps98
  go_wp2_with (first|(refine zX (N:=1) (cs:=#[.int .i64 a0_0,.int .i64 a0_1,.int .i64 a0_2]) (t:=34) (h:=?_);intro gb1 hg _ hbox hb;have BK1:=qa hbox;have GE1:=qa (qz3:w.heap.size≤gb1);replace HB:=zs HB hb;clear hb hbox hg;have ⟨_,_,_,_,_,_⟩:=zC3 BK1.out)|(refine zL 127 (some 4) Tryz.func127 #[.agg #[.int .i64 a0_0,.int .i64 a0_1,.int .i64 a0_2]] (h:=?_);refine (spec_cnGood.calls a0_0 a0_1 a0_2 false _ A2.out).mono ?_;rintro e _ ⟨rfl,hb⟩;refine ⟨_,rfl,?_⟩;replace BK1:=zBb BK1 hb;replace HB:=qa (below_step qz6 hb);clear hb))
  go_ret;exact ⟨qz15,qz6⟩
 (try dsimp only at H);replace H:=zB H;obtain ⟨t2,A4,H⟩:=H;obtain rfl:=Option.some.inj H;go_enter Tryz.func98,Tryz.ntmps98
 go_wp2_with (first|(refine zX (N:=1) (cs:=#[.int .i64 a0_0,.int .i64 a0_1,.int .i64 a0_2]) (t:=34) (h:=?_);intro gb1 hg _ hbox hb;have BK1:=qa hbox;have GE1:=qa (qz3:w.heap.size≤gb1);replace HB:=zs HB hb;clear hb hbox hg;have ⟨_,_,_,_,_,_⟩:=zC3 BK1.out)|(refine zL 127 (some 4) Tryz.func127 #[.agg #[.int .i64 a0_0,.int .i64 a0_1,.int .i64 a0_2]] (h:=?_);refine (spec_cnGood.calls a0_0 a0_1 a0_2 true _ A2.out).mono ?_;rintro e _ ⟨rfl,hb⟩;refine ⟨_,rfl,?_⟩;replace BK1:=zBb BK1 hb;replace HB:=qa (below_step qz6 hb);clear hb;have ⟨_,_,_,_,_,_⟩:=zC3 BK1.out)|(go_at_call 62;(with_reducible refine (spec_pzOf.calls a0_2 t2 _ A4.out).mono ?_);rintro e w' ⟨rfl,⟨nd,rfl⟩⟩))
 go_ret;exact ⟨qz15,qz6⟩
def spec_pzNext.f (a0:Int):Option (Int):=some (Int.tmod (wrap64 ((wrap64 (239*a0))+1777)) 10007)
set_option maxHeartbeats 8000000 in
set_option maxRecDepth 100000 in
theorem spec_pzNext.calls (a0:Int) (r:Int) (w:World) (h:spec_pzNext.f a0=some r) :
    Calls Tryz.prog 99 #[.int .i64 a0] w fun e w'=>e=.returned (.int .i64 r)∧Drawn0 w w':=by
 have H:=h;unfold spec_pzNext.f at H;clear h;obtain rfl:=Option.some.inj H;go_enter Tryz.func99,Tryz.ntmps99;go_wp2;go_ret;exact ⟨qz23,qz85⟩
def spec_cnLow.l0:Nat→Int→Int→Int→Int→Option (Int×Int)
  | 0,_,_,_,_=>none
  | k+1,x0,x1,x6,x7=>if x7>0 then (if x7=0 then (none) else (spec_cnLow.l0 k x0 x1 x7 (Int.tmod x6 x7))) else (if x6=0 then (none) else (some (wrap64 (Int.tdiv x0 x6),wrap64 (Int.tdiv x1 x6))))
def spec_cnLow.f (k:Nat) (a0:Int) (a1:Int):Option (Int×Int):=spec_cnLow.l0 k a0 a1 a0 a1
theorem spec_cnLow.mono_l:∀k,(∀y0 y1 y2 y3,LeO (spec_cnLow.l0 k y0 y1 y2 y3) (spec_cnLow.l0 (k+1) y0 y1 y2 y3))
  | 0=>fun _ _ _ _ r h=>by simp [spec_cnLow.l0] at h
  | k+1=>by
    have ih0:=spec_cnLow.mono_l k
    · intro y0 y1 y2 y3
      unfold spec_cnLow.l0
      repeat' first
   | with_reducible first|exact ih0 _ _ _ _|exact LeO.refl _|exact LeO.none _|refine LeO.ite ?_ ?_|refine LeO.bind ?_ (fun _=>?_)
theorem spec_cnLow.mono:∀a0 a1 k,LeO (spec_cnLow.f k a0 a1) (spec_cnLow.f (k+1) a0 a1):=by
  intro a0 a1 k
  have ih0:=spec_cnLow.mono_l k
  unfold spec_cnLow.f
  repeat' first
   | with_reducible first|exact ih0 _ _ _ _|exact LeO.refl _|exact LeO.none _|refine LeO.ite ?_ ?_|refine LeO.bind ?_ (fun _=>?_)
set_option maxHeartbeats 8000000 in
set_option maxRecDepth 100000 in
theorem spec_cnLow.calls (k:Nat) (a0:Int) (a1:Int) (r1:Int) (r2:Int) (w:World) (h:spec_cnLow.f k a0 a1=some (r1,r2)) :
    Calls Tryz.prog 102 #[.int .i64 a0,.int .i64 a1] w fun e w'=>e=.returned (.tuple #[.int .i64 r1,.int .i64 r2])∧Drawn0 w w':=by
 have H:=h;unfold spec_cnLow.f at H;clear h;have H':=Aside0.mk H;clear H;go_enter Tryz.func102,Tryz.ntmps102;go_wp2;(repeat (go_quiet (fail);try go_wp2));go_loopg [6,7] k (fun kq v6 v7 w'=>∃(x6_1:Int) (x7_1:Int),v6=.int .i64 x6_1∧v7=.int .i64 x7_1∧Aside0 (spec_cnLow.l0 kq a0 a1 x6_1 x7_1=some (r1,r2))∧Aside0 (kq≤k)∧Drawn0 w w')
 case atStart=>exact ⟨(a0),(a1),qz23,qz23,H',⟨Nat.le_refl _⟩,qz85⟩
 case round=>
  clear H';obtain ⟨x6_1,x7_1,rfl,rfl,HA,HK1,⟨m1,rfl⟩⟩:=hrel
  cases gk with
  | zero=>exact absurd HA.out (by simp [spec_cnLow.l0])
  | succ k1=>
   have H:=HA.out;clear HA;simp only [spec_cnLow.l0] at H;replace H:=zD' H;rcases H with ⟨c3b0,H⟩|⟨c3b0,H⟩
   ·replace H:=zSg H;obtain ⟨c5,H⟩:=H;have ⟨c5b0,c5b1⟩:=zNe c5;simp only [Option.some.injEq,Prod.mk.injEq] at H;obtain ⟨rfl,rfl⟩:=H;go_wp2;(repeat (go_quiet (fail);try go_wp2));go_ret2;exact ⟨qz23,qz85⟩
   replace H:=zSg H;obtain ⟨c4,H⟩:=H;have ⟨c4b0,c4b1⟩:=zNe c4;have H':=Aside0.mk H;clear H;go_wp2;(repeat (go_quiet (fail);try go_wp2));go_roundg k1
   case measure=>have:=HK1.out;omega
   case rel=>exact ⟨(x7_1),(Int.tmod x6_1 x7_1),qz23,qz23,H',⟨qz55⟩,qz85⟩
def spec_pzValue.f (k:Nat) (a0:Int) (a1_0:Int) (a1_1:Int) (a1_2:Int):Option (Int×Int×Bool):=if a0=0 then (if a1_0>a1_1 then (some (0,1,true)) else (some (0,0,true))) else (if a0=1 then (some (0,wrap64 (a1_0+a1_1),true)) else (if a0=2 then (some (0,wrap64 (a1_0*a1_1),true)) else (if a0=3 then (if a1_0=0 then (some (0,0,false)) else (if a1_1=0 then (some (0,0,false)) else ((spec_cnLow.f k a1_1 (wrap64 (a1_0+a1_1))).bind fun bt110=>(some (bt110.1,bt110.2,true))))) else (if a0=4 then (if a1_1=0 then (some (0,0,false)) else ((spec_cnLow.f k a1_2 a1_1).bind fun bt112=>(some (bt112.1,bt112.2,true)))) else (some (0,wrap64 ((wrap64 ((wrap64 (a1_2 - a1_0))*(wrap64 (a1_2 - a1_0))))+(wrap64 (a1_0*a1_1))),true))))))
theorem spec_pzValue.mono:∀a0 a1 a2 a3 k,LeO (spec_pzValue.f k a0 a1 a2 a3) (spec_pzValue.f (k+1) a0 a1 a2 a3):=by
  intro a0 a1 a2 a3 k
  unfold spec_pzValue.f
  repeat' first
   | with_reducible first|exact spec_cnLow.mono _ _ _|exact LeO.refl _|exact LeO.none _|refine LeO.ite ?_ ?_|refine LeO.bind ?_ (fun _=>?_)
set_option maxHeartbeats 8000000 in
set_option maxRecDepth 100000 in
theorem spec_pzValue.calls (k:Nat) (a0:Int) (a1_0:Int) (a1_1:Int) (a1_2:Int) (r1:Int) (r2:Int) (r3:Bool) (w:World) (h:spec_pzValue.f k a0 a1_0 a1_1 a1_2=some (r1,r2,r3)) :
    Calls Tryz.prog 85 #[.int .i64 a0,.agg #[.int .i64 a1_0,.int .i64 a1_1,.int .i64 a1_2]] w fun e w'=>e=.returned (.tuple #[.int .i64 r1,.int .i64 r2,.bool r3])∧Below w.heap.size w w':=by
 have hu34:=Tryz.underlying34;have HB:=qa (Below.refl w.heap.size w);have H:=h;unfold spec_pzValue.f at H;clear h;replace H:=zS H;rcases H with ⟨c3,H⟩|⟨c3,H⟩
 ·have ⟨c3b0,c3b1⟩:=zEq c3;clear c3;replace H:=zD H;rcases H with ⟨c4b0,H⟩|⟨c4b0,H⟩
  ·simp only [Option.some.injEq,Prod.mk.injEq] at H;obtain ⟨rfl,rfl,rfl⟩:=H;go_enter Tryz.func85,Tryz.ntmps85;go_wp2_with (first|(refine zX (N:=3) (cs:=#[.int .i64 a1_0,.int .i64 a1_1,.int .i64 a1_2]) (t:=34) (h:=?_);intro gb1 hg w5 hbox hb;have BK1:=qa hbox;have GE1:=qa (qz3:w.heap.size≤gb1);replace HB:=zs HB hb;clear hb hbox hg;have ⟨_,_,_,_,_,_⟩:=zC3 BK1.out))
   (repeat (go_quiet (first|(refine zX (N:=3) (cs:=#[.int .i64 a1_0,.int .i64 a1_1,.int .i64 a1_2]) (t:=34) (h:=?_);intro gb1 hg w5 hbox hb;have BK1:=qa hbox;have GE1:=qa (qz3:w.heap.size≤gb1);replace HB:=zs HB hb;clear hb hbox hg;have ⟨_,_,_,_,_,_⟩:=zC3 BK1.out));try go_wp2_with (first|(refine zX (N:=3) (cs:=#[.int .i64 a1_0,.int .i64 a1_1,.int .i64 a1_2]) (t:=34) (h:=?_);intro gb1 hg w5 hbox hb;have BK1:=qa hbox;have GE1:=qa (qz3:w.heap.size≤gb1);replace HB:=zs HB hb;clear hb hbox hg;have ⟨_,_,_,_,_,_⟩:=zC3 BK1.out))))
   go_ret3;exact ⟨qz15,qz6⟩
  simp only [Option.some.injEq,Prod.mk.injEq] at H;obtain ⟨rfl,rfl,rfl⟩:=H;go_enter Tryz.func85,Tryz.ntmps85;go_wp2_with (first|(refine zX (N:=3) (cs:=#[.int .i64 a1_0,.int .i64 a1_1,.int .i64 a1_2]) (t:=34) (h:=?_);intro gb1 hg w7 hbox hb;have BK1:=qa hbox;have GE1:=qa (qz3:w.heap.size≤gb1);replace HB:=zs HB hb;clear hb hbox hg;have ⟨_,_,_,_,_,_⟩:=zC3 BK1.out))
  (repeat (go_quiet (first|(refine zX (N:=3) (cs:=#[.int .i64 a1_0,.int .i64 a1_1,.int .i64 a1_2]) (t:=34) (h:=?_);intro gb1 hg w7 hbox hb;have BK1:=qa hbox;have GE1:=qa (qz3:w.heap.size≤gb1);replace HB:=zs HB hb;clear hb hbox hg;have ⟨_,_,_,_,_,_⟩:=zC3 BK1.out));try go_wp2_with (first|(refine zX (N:=3) (cs:=#[.int .i64 a1_0,.int .i64 a1_1,.int .i64 a1_2]) (t:=34) (h:=?_);intro gb1 hg w7 hbox hb;have BK1:=qa hbox;have GE1:=qa (qz3:w.heap.size≤gb1);replace HB:=zs HB hb;clear hb hbox hg;have ⟨_,_,_,_,_,_⟩:=zC3 BK1.out))))
  go_ret3;exact ⟨qz15,qz6⟩
 have ⟨c3b0,c3b1⟩:=zNe c3;replace H:=zS H;rcases H with ⟨c9,H⟩|⟨c9,H⟩
 ·have ⟨c9b0,c9b1⟩:=zEq c9;clear c9;simp only [Option.some.injEq,Prod.mk.injEq] at H;obtain ⟨rfl,rfl,rfl⟩:=H;go_enter Tryz.func85,Tryz.ntmps85;go_wp2_with (first|(refine zX (N:=3) (cs:=#[.int .i64 a1_0,.int .i64 a1_1,.int .i64 a1_2]) (t:=34) (h:=?_);intro gb1 hg w10 hbox hb;have BK1:=qa hbox;have GE1:=qa (qz3:w.heap.size≤gb1);replace HB:=zs HB hb;clear hb hbox hg;have ⟨_,_,_,_,_,_⟩:=zC3 BK1.out))
  (repeat (go_quiet (first|(refine zX (N:=3) (cs:=#[.int .i64 a1_0,.int .i64 a1_1,.int .i64 a1_2]) (t:=34) (h:=?_);intro gb1 hg w10 hbox hb;have BK1:=qa hbox;have GE1:=qa (qz3:w.heap.size≤gb1);replace HB:=zs HB hb;clear hb hbox hg;have ⟨_,_,_,_,_,_⟩:=zC3 BK1.out));try go_wp2_with (first|(refine zX (N:=3) (cs:=#[.int .i64 a1_0,.int .i64 a1_1,.int .i64 a1_2]) (t:=34) (h:=?_);intro gb1 hg w10 hbox hb;have BK1:=qa hbox;have GE1:=qa (qz3:w.heap.size≤gb1);replace HB:=zs HB hb;clear hb hbox hg;have ⟨_,_,_,_,_,_⟩:=zC3 BK1.out))))
  go_ret3;exact ⟨qz15,qz6⟩
 have ⟨c9b0,c9b1⟩:=zNe c9;replace H:=zS H;rcases H with ⟨c12,H⟩|⟨c12,H⟩
 ·have ⟨c12b0,c12b1⟩:=zEq c12;clear c12;simp only [Option.some.injEq,Prod.mk.injEq] at H;obtain ⟨rfl,rfl,rfl⟩:=H;go_enter Tryz.func85,Tryz.ntmps85;go_wp2_with (first|(refine zX (N:=3) (cs:=#[.int .i64 a1_0,.int .i64 a1_1,.int .i64 a1_2]) (t:=34) (h:=?_);intro gb1 hg w13 hbox hb;have BK1:=qa hbox;have GE1:=qa (qz3:w.heap.size≤gb1);replace HB:=zs HB hb;clear hb hbox hg;have ⟨_,_,_,_,_,_⟩:=zC3 BK1.out))
  (repeat (go_quiet (first|(refine zX (N:=3) (cs:=#[.int .i64 a1_0,.int .i64 a1_1,.int .i64 a1_2]) (t:=34) (h:=?_);intro gb1 hg w13 hbox hb;have BK1:=qa hbox;have GE1:=qa (qz3:w.heap.size≤gb1);replace HB:=zs HB hb;clear hb hbox hg;have ⟨_,_,_,_,_,_⟩:=zC3 BK1.out));try go_wp2_with (first|(refine zX (N:=3) (cs:=#[.int .i64 a1_0,.int .i64 a1_1,.int .i64 a1_2]) (t:=34) (h:=?_);intro gb1 hg w13 hbox hb;have BK1:=qa hbox;have GE1:=qa (qz3:w.heap.size≤gb1);replace HB:=zs HB hb;clear hb hbox hg;have ⟨_,_,_,_,_,_⟩:=zC3 BK1.out))))
  go_ret3;exact ⟨qz15,qz6⟩
 have ⟨c12b0,c12b1⟩:=zNe c12;replace H:=zS' H;rcases H with ⟨c15,H⟩|⟨c15,H⟩
 ·have ⟨c15b0,c15b1⟩:=zNe c15;replace H:=zS' H;rcases H with ⟨c25,H⟩|⟨c25,H⟩
  ·have ⟨c25b0,c25b1⟩:=zNe c25;simp only [Option.some.injEq,Prod.mk.injEq] at H;obtain ⟨rfl,rfl,rfl⟩:=H;go_enter Tryz.func85,Tryz.ntmps85;go_wp2_with (first|(refine zX (N:=3) (cs:=#[.int .i64 a1_0,.int .i64 a1_1,.int .i64 a1_2]) (t:=34) (h:=?_);intro gb1 hg w32 hbox hb;have BK1:=qa hbox;have GE1:=qa (qz3:w.heap.size≤gb1);replace HB:=zs HB hb;clear hb hbox hg;have ⟨_,_,_,_,_,_⟩:=zC3 BK1.out))
   (repeat (go_quiet (first|(refine zX (N:=3) (cs:=#[.int .i64 a1_0,.int .i64 a1_1,.int .i64 a1_2]) (t:=34) (h:=?_);intro gb1 hg w32 hbox hb;have BK1:=qa hbox;have GE1:=qa (qz3:w.heap.size≤gb1);replace HB:=zs HB hb;clear hb hbox hg;have ⟨_,_,_,_,_,_⟩:=zC3 BK1.out));try go_wp2_with (first|(refine zX (N:=3) (cs:=#[.int .i64 a1_0,.int .i64 a1_1,.int .i64 a1_2]) (t:=34) (h:=?_);intro gb1 hg w32 hbox hb;have BK1:=qa hbox;have GE1:=qa (qz3:w.heap.size≤gb1);replace HB:=zs HB hb;clear hb hbox hg;have ⟨_,_,_,_,_,_⟩:=zC3 BK1.out))))
   go_ret3;exact ⟨qz15,qz6⟩
  have ⟨c25b0,c25b1⟩:=zEq c25;clear c25;replace H:=zS H;rcases H with ⟨c26,H⟩|⟨c26,H⟩
  ·have ⟨c26b0,c26b1⟩:=zEq c26;clear c26;simp only [Option.some.injEq,Prod.mk.injEq] at H;obtain ⟨rfl,rfl,rfl⟩:=H;go_enter Tryz.func85,Tryz.ntmps85;go_wp2_with (first|(refine zX (N:=3) (cs:=#[.int .i64 a1_0,.int .i64 a1_1,.int .i64 a1_2]) (t:=34) (h:=?_);intro gb1 hg w27 hbox hb;have BK1:=qa hbox;have GE1:=qa (qz3:w.heap.size≤gb1);replace HB:=zs HB hb;clear hb hbox hg;have ⟨_,_,_,_,_,_⟩:=zC3 BK1.out))
   (repeat (go_quiet (first|(refine zX (N:=3) (cs:=#[.int .i64 a1_0,.int .i64 a1_1,.int .i64 a1_2]) (t:=34) (h:=?_);intro gb1 hg w27 hbox hb;have BK1:=qa hbox;have GE1:=qa (qz3:w.heap.size≤gb1);replace HB:=zs HB hb;clear hb hbox hg;have ⟨_,_,_,_,_,_⟩:=zC3 BK1.out));try go_wp2_with (first|(refine zX (N:=3) (cs:=#[.int .i64 a1_0,.int .i64 a1_1,.int .i64 a1_2]) (t:=34) (h:=?_);intro gb1 hg w27 hbox hb;have BK1:=qa hbox;have GE1:=qa (qz3:w.heap.size≤gb1);replace HB:=zs HB hb;clear hb hbox hg;have ⟨_,_,_,_,_,_⟩:=zC3 BK1.out))))
   go_ret3;exact ⟨qz15,qz6⟩
  have ⟨c26b0,c26b1⟩:=zNe c26;replace H:=zB H;obtain ⟨⟨t1,t2⟩,A29,H⟩:=H;(try dsimp only at H);simp only [Option.some.injEq,Prod.mk.injEq] at H;obtain ⟨rfl,rfl,rfl⟩:=H;go_enter Tryz.func85,Tryz.ntmps85
  go_wp2_with (first|(refine zX (N:=3) (cs:=#[.int .i64 a1_0,.int .i64 a1_1,.int .i64 a1_2]) (t:=34) (h:=?_);intro gb1 hg w30 hbox hb;have BK1:=qa hbox;have GE1:=qa (qz3:w.heap.size≤gb1);replace HB:=zs HB hb;clear hb hbox hg;have ⟨_,_,_,_,_,_⟩:=zC3 BK1.out)|(go_at_call 102;(with_reducible refine (spec_cnLow.calls k a1_2 a1_1 t1 t2 _ A29.out).mono ?_);rintro e w' ⟨rfl,⟨nd,rfl⟩⟩;(try first|exact ⟨rfl,_,World.drewN_drewN _ _ _⟩|exact ⟨rfl,_,Eq.trans (World.drewN_drewN _ _ _) (congrArg (World.drewN _) (Nat.add_assoc _ _ _))⟩)))
  (repeat (go_quiet (first|(refine zX (N:=3) (cs:=#[.int .i64 a1_0,.int .i64 a1_1,.int .i64 a1_2]) (t:=34) (h:=?_);intro gb1 hg w30 hbox hb;have BK1:=qa hbox;have GE1:=qa (qz3:w.heap.size≤gb1);replace HB:=zs HB hb;clear hb hbox hg;have ⟨_,_,_,_,_,_⟩:=zC3 BK1.out)|(go_at_call 102;(with_reducible refine (spec_cnLow.calls k a1_2 a1_1 t1 t2 _ A29.out).mono ?_);rintro e w' ⟨rfl,⟨nd,rfl⟩⟩;(try first|exact ⟨rfl,_,World.drewN_drewN _ _ _⟩|exact ⟨rfl,_,Eq.trans (World.drewN_drewN _ _ _) (congrArg (World.drewN _) (Nat.add_assoc _ _ _))⟩)));try go_wp2_with (first|(refine zX (N:=3) (cs:=#[.int .i64 a1_0,.int .i64 a1_1,.int .i64 a1_2]) (t:=34) (h:=?_);intro gb1 hg w30 hbox hb;have BK1:=qa hbox;have GE1:=qa (qz3:w.heap.size≤gb1);replace HB:=zs HB hb;clear hb hbox hg;have ⟨_,_,_,_,_,_⟩:=zC3 BK1.out)|(go_at_call 102;(with_reducible refine (spec_cnLow.calls k a1_2 a1_1 t1 t2 _ A29.out).mono ?_);rintro e w' ⟨rfl,⟨nd,rfl⟩⟩;(try first|exact ⟨rfl,_,World.drewN_drewN _ _ _⟩|exact ⟨rfl,_,Eq.trans (World.drewN_drewN _ _ _) (congrArg (World.drewN _) (Nat.add_assoc _ _ _))⟩)))))
  go_ret3;exact ⟨qz15,qz6⟩
 have ⟨c15b0,c15b1⟩:=zEq c15;clear c15;replace H:=zS H;rcases H with ⟨c16,H⟩|⟨c16,H⟩
 ·have ⟨c16b0,c16b1⟩:=zEq c16;clear c16;simp only [Option.some.injEq,Prod.mk.injEq] at H;obtain ⟨rfl,rfl,rfl⟩:=H;go_enter Tryz.func85,Tryz.ntmps85;go_wp2_with (first|(refine zX (N:=3) (cs:=#[.int .i64 a1_0,.int .i64 a1_1,.int .i64 a1_2]) (t:=34) (h:=?_);intro gb1 hg w17 hbox hb;have BK1:=qa hbox;have GE1:=qa (qz3:w.heap.size≤gb1);replace HB:=zs HB hb;clear hb hbox hg;have ⟨_,_,_,_,_,_⟩:=zC3 BK1.out))
  (repeat (go_quiet (first|(refine zX (N:=3) (cs:=#[.int .i64 a1_0,.int .i64 a1_1,.int .i64 a1_2]) (t:=34) (h:=?_);intro gb1 hg w17 hbox hb;have BK1:=qa hbox;have GE1:=qa (qz3:w.heap.size≤gb1);replace HB:=zs HB hb;clear hb hbox hg;have ⟨_,_,_,_,_,_⟩:=zC3 BK1.out));try go_wp2_with (first|(refine zX (N:=3) (cs:=#[.int .i64 a1_0,.int .i64 a1_1,.int .i64 a1_2]) (t:=34) (h:=?_);intro gb1 hg w17 hbox hb;have BK1:=qa hbox;have GE1:=qa (qz3:w.heap.size≤gb1);replace HB:=zs HB hb;clear hb hbox hg;have ⟨_,_,_,_,_,_⟩:=zC3 BK1.out))))
  go_ret3;exact ⟨qz15,qz6⟩
 have ⟨c16b0,c16b1⟩:=zNe c16;replace H:=zS H;rcases H with ⟨c19,H⟩|⟨c19,H⟩
 ·have ⟨c19b0,c19b1⟩:=zEq c19;clear c19;simp only [Option.some.injEq,Prod.mk.injEq] at H;obtain ⟨rfl,rfl,rfl⟩:=H;go_enter Tryz.func85,Tryz.ntmps85;go_wp2_with (first|(refine zX (N:=3) (cs:=#[.int .i64 a1_0,.int .i64 a1_1,.int .i64 a1_2]) (t:=34) (h:=?_);intro gb1 hg w20 hbox hb;have BK1:=qa hbox;have GE1:=qa (qz3:w.heap.size≤gb1);replace HB:=zs HB hb;clear hb hbox hg;have ⟨_,_,_,_,_,_⟩:=zC3 BK1.out))
  (repeat (go_quiet (first|(refine zX (N:=3) (cs:=#[.int .i64 a1_0,.int .i64 a1_1,.int .i64 a1_2]) (t:=34) (h:=?_);intro gb1 hg w20 hbox hb;have BK1:=qa hbox;have GE1:=qa (qz3:w.heap.size≤gb1);replace HB:=zs HB hb;clear hb hbox hg;have ⟨_,_,_,_,_,_⟩:=zC3 BK1.out));try go_wp2_with (first|(refine zX (N:=3) (cs:=#[.int .i64 a1_0,.int .i64 a1_1,.int .i64 a1_2]) (t:=34) (h:=?_);intro gb1 hg w20 hbox hb;have BK1:=qa hbox;have GE1:=qa (qz3:w.heap.size≤gb1);replace HB:=zs HB hb;clear hb hbox hg;have ⟨_,_,_,_,_,_⟩:=zC3 BK1.out))))
  go_ret3;exact ⟨qz15,qz6⟩
 have ⟨c19b0,c19b1⟩:=zNe c19;replace H:=zB H;obtain ⟨⟨t3,t4⟩,A22,H⟩:=H;(try dsimp only at H);simp only [Option.some.injEq,Prod.mk.injEq] at H;obtain ⟨rfl,rfl,rfl⟩:=H;go_enter Tryz.func85,Tryz.ntmps85
 go_wp2_with (first|(refine zX (N:=3) (cs:=#[.int .i64 a1_0,.int .i64 a1_1,.int .i64 a1_2]) (t:=34) (h:=?_);intro gb1 hg w23 hbox hb;have BK1:=qa hbox;have GE1:=qa (qz3:w.heap.size≤gb1);replace HB:=zs HB hb;clear hb hbox hg;have ⟨_,_,_,_,_,_⟩:=zC3 BK1.out)|(go_at_call 102;(with_reducible refine (spec_cnLow.calls k a1_1 (wrap64 (a1_0+a1_1)) t3 t4 _ A22.out).mono ?_);rintro e w' ⟨rfl,⟨nd,rfl⟩⟩;(try first|exact ⟨rfl,_,World.drewN_drewN _ _ _⟩|exact ⟨rfl,_,Eq.trans (World.drewN_drewN _ _ _) (congrArg (World.drewN _) (Nat.add_assoc _ _ _))⟩)))
 (repeat (go_quiet (first|(refine zX (N:=3) (cs:=#[.int .i64 a1_0,.int .i64 a1_1,.int .i64 a1_2]) (t:=34) (h:=?_);intro gb1 hg w23 hbox hb;have BK1:=qa hbox;have GE1:=qa (qz3:w.heap.size≤gb1);replace HB:=zs HB hb;clear hb hbox hg;have ⟨_,_,_,_,_,_⟩:=zC3 BK1.out)|(go_at_call 102;(with_reducible refine (spec_cnLow.calls k a1_1 (wrap64 (a1_0+a1_1)) t3 t4 _ A22.out).mono ?_);rintro e w' ⟨rfl,⟨nd,rfl⟩⟩;(try first|exact ⟨rfl,_,World.drewN_drewN _ _ _⟩|exact ⟨rfl,_,Eq.trans (World.drewN_drewN _ _ _) (congrArg (World.drewN _) (Nat.add_assoc _ _ _))⟩)));try go_wp2_with (first|(refine zX (N:=3) (cs:=#[.int .i64 a1_0,.int .i64 a1_1,.int .i64 a1_2]) (t:=34) (h:=?_);intro gb1 hg w23 hbox hb;have BK1:=qa hbox;have GE1:=qa (qz3:w.heap.size≤gb1);replace HB:=zs HB hb;clear hb hbox hg;have ⟨_,_,_,_,_,_⟩:=zC3 BK1.out)|(go_at_call 102;(with_reducible refine (spec_cnLow.calls k a1_1 (wrap64 (a1_0+a1_1)) t3 t4 _ A22.out).mono ?_);rintro e w' ⟨rfl,⟨nd,rfl⟩⟩;(try first|exact ⟨rfl,_,World.drewN_drewN _ _ _⟩|exact ⟨rfl,_,Eq.trans (World.drewN_drewN _ _ _) (congrArg (World.drewN _) (Nat.add_assoc _ _ _))⟩)))))
 go_ret3;exact ⟨qz15,qz6⟩
def spec_pzMake.j0:Nat→Int→Bool→Int→Int→Int→Option (Int×Int×Int)
  | 0,_,_,_,_,_=>none
  | k+1,x0,x8,x115000,x115001,x115002=>if x8=true then ((spec_pzValue.f k 0 x115000 x115001 x115002).bind fun bt116=>(some (0,bt116.1,bt116.2.1))) else (if x0=4 then (if x115001=0 then ((spec_pzValue.f k 1 x115000 x115001 x115002).bind fun bt119=>(some (1,bt119.1,bt119.2.1))) else ((spec_pzValue.f k x0 x115000 x115001 x115002).bind fun bt122=>(some (x0,bt122.1,bt122.2.1)))) else ((spec_pzValue.f k x0 x115000 x115001 x115002).bind fun bt125=>(some (x0,bt125.1,bt125.2.1))))
def spec_pzMake.f (k:Nat) (a0:Int) (a1_0:Int) (a1_1:Int) (a1_2:Int):Option (Int×Int×Int):=if a0=3 then (if a1_0=0 then (spec_pzMake.j0 k a0 true a1_0 a1_1 a1_2) else (spec_pzMake.j0 k a0 (a1_1==0) a1_0 a1_1 a1_2)) else (spec_pzMake.j0 k a0 false a1_0 a1_1 a1_2)
theorem spec_pzMake.mono_l:∀k,(∀y0 y1 y2 y3 y4,LeO (spec_pzMake.j0 k y0 y1 y2 y3 y4) (spec_pzMake.j0 (k+1) y0 y1 y2 y3 y4))
  | 0=>fun _ _ _ _ _ r h=>by simp [spec_pzMake.j0] at h
  | k+1=>by
    have ih0:=spec_pzMake.mono_l k
    · intro y0 y1 y2 y3 y4
      unfold spec_pzMake.j0
      repeat' first
   | with_reducible first|exact ih0 _ _ _ _ _|exact spec_pzValue.mono _ _ _ _ _|exact LeO.refl _|exact LeO.none _|refine LeO.ite ?_ ?_|refine LeO.bind ?_ (fun _=>?_)
theorem spec_pzMake.mono:∀a0 a1 a2 a3 k,LeO (spec_pzMake.f k a0 a1 a2 a3) (spec_pzMake.f (k+1) a0 a1 a2 a3):=by
  intro a0 a1 a2 a3 k
  have ih0:=spec_pzMake.mono_l k
  unfold spec_pzMake.f
  repeat' first
   | with_reducible first|exact ih0 _ _ _ _ _|exact spec_pzValue.mono _ _ _ _ _|exact LeO.refl _|exact LeO.none _|refine LeO.ite ?_ ?_|refine LeO.bind ?_ (fun _=>?_)
set_option maxHeartbeats 8000000 in
set_option maxRecDepth 100000 in
theorem spec_pzMake.calls (k:Nat) (a0:Int) (a1_0:Int) (a1_1:Int) (a1_2:Int) (r1:Int) (r2:Int) (r3:Int) (w:World) (h:spec_pzMake.f k a0 a1_0 a1_1 a1_2=some (r1,r2,r3)) :
    Calls Tryz.prog 100 #[.int .i64 a0,.agg #[.int .i64 a1_0,.int .i64 a1_1,.int .i64 a1_2]] w fun e w'=>e=.returned (.agg #[.int .i64 r1,.int .i64 r2,.int .i64 r3])∧Below w.heap.size w w':=by
 have hu34:=Tryz.underlying34;have hu51:=Tryz.underlying51;have HB:=qa (Below.refl w.heap.size w);have H:=h;unfold spec_pzMake.f at H;clear h;have HC3:=Aside0.mk H;clear H;go_enter Tryz.func100,Tryz.ntmps100
 go_upto_region 1 with (first|(refine zX (N:=3) (cs:=#[.int .i64 a1_0,.int .i64 a1_1,.int .i64 a1_2]) (t:=34) (h:=?_);intro gb1 hg _ hbox hb;have BK1:=qa hbox;have GE1:=qa (qz3:w.heap.size≤gb1);replace HB:=zs HB hb;clear hb hbox hg)|(refine zX (N:=4) (cs:=#[.int .i64 0,.int .i64 0,.int .i64 0]) (t:=51) (h:=?_);intro gb2 hg _ hbox hb;have BK2:=qa hbox;have GE2:=qa (qz5:w.heap.size≤gb2);replace HB:=qa (below_step qz6 hb);have NB1_2:=qa ((by rw [hg];exact Nat.ne_of_lt (blk_lt (g:=gb1) (o:=.cells #[.int .i64 a1_0,.int .i64 a1_1,.int .i64 a1_2] 34 (0,0)) qz8):gb1≠gb2));have NB2_1:=qa ((by rw [hg];exact Nat.ne_of_gt (blk_lt (g:=gb1) (o:=.cells #[.int .i64 a1_0,.int .i64 a1_1,.int .i64 a1_2] 34 (0,0)) qz8):gb2≠gb1));replace BK1:=zBb BK1 hb;clear hb hbox hg))
 (try simp only [Act.put,List.setIfInBounds_toArray,List.set_cons_zero,List.set_cons_succ]);go_cut [8] (fun v8 wc=>∃(kq:Nat) (x8_2:Bool),v8=.bool x8_2∧Aside0 (spec_pzMake.j0 kq a0 x8_2 a1_0 a1_1 a1_2=some (r1,r2,r3))∧Aside0 (kq≤k)∧Aside0 (wc.heap[gb1]? = some (.cells #[.int .i64 a1_0,.int .i64 a1_1,.int .i64 a1_2] 34 (0,0)))∧Aside0 (wc.heap[gb2]? = some (.cells #[.int .i64 0,.int .i64 0,.int .i64 0] 51 (0,0)))∧Aside0 (Below w.heap.size w wc))
 case first=>
  have H:=HC3.out;clear HC3;replace H:=zS' H;rcases H with ⟨c6,H⟩|⟨c6,H⟩
  ·have ⟨c6b0,c6b1⟩:=zNe c6;(first|rw [c6b0]|(simp only [i64_w,i32_w];rw [c6b0])|skip);have H':=Aside0.mk H;clear H;go_wp2;go_meet
   case rel=>exact ⟨_,(false),qz23,H',⟨qz35⟩,⟨qz8⟩,⟨qz13⟩,⟨qz11⟩⟩
  have ⟨c6b0,c6b1⟩:=zEq c6;clear c6;(first|rw [c6b0]|(simp only [i64_w,i32_w];rw [c6b0])|skip);replace H:=zS H;rcases H with ⟨c7,H⟩|⟨c7,H⟩
  ·have ⟨c7b0,c7b1⟩:=zEq c7;clear c7;have H':=Aside0.mk H;clear H;have hnb8:=NB1_2.out;have hnc8:=NB2_1.out;have ⟨_,_,_,_,_,_⟩:=zC3 BK1.out;go_wp2;go_meet
   case rel=>exact ⟨_,(true),qz23,H',⟨qz35⟩,⟨qz8⟩,⟨qz13⟩,⟨qz11⟩⟩
  have ⟨c7b0,c7b1⟩:=zNe c7;have H':=Aside0.mk H;clear H;have hnb10:=NB1_2.out;have hnc10:=NB2_1.out;have ⟨_,_,_,_,_,_⟩:=zC3 BK1.out;go_wp2;go_meet
  case rel=>exact ⟨_,((a1_1==0)),qz23,H',⟨qz35⟩,⟨qz8⟩,⟨qz13⟩,⟨qz11⟩⟩
 case rest=>
  clear HC3;obtain ⟨kq,x8_2,rfl,HA,HJ2,BK1,BK2,HB⟩:=hcut
  cases kq with
  | zero=>exact absurd HA.out (by simp [spec_pzMake.j0])
  | succ kj2=>
   have H:=HA.out;clear HA;simp only [spec_pzMake.j0] at H;replace H:=zI H;rcases H with ⟨rfl,H⟩|⟨rfl,H⟩
   ·(try dsimp only at H);replace H:=zB H;obtain ⟨⟨t1,t2,t3⟩,A13,H⟩:=H;(try dsimp only at H);simp only [Option.some.injEq,Prod.mk.injEq] at H;obtain ⟨rfl,rfl,rfl⟩:=H;have hnb14:=NB1_2.out;have hnc14:=NB2_1.out;have ⟨_,_,_,_,_,_⟩:=zC3 BK1.out;go_wp2_with (first|(refine zL 85 (some 32) Tryz.func85 #[.int .i64 0,.agg #[.int .i64 a1_0,.int .i64 a1_1,.int .i64 a1_2]] (h:=?_);refine (spec_pzValue.calls kj2 0 a1_0 a1_1 a1_2 t1 t2 t3 _ A13.out).mono ?_;rintro e _ ⟨rfl,hb⟩;refine ⟨_,rfl,?_⟩;replace BK1:=zBb BK1 hb;replace BK2:=zBb BK2 hb;replace HB:=qa (below_step qz11 hb);clear hb;have ⟨_,_,_,_,_,_⟩:=zC3 BK2.out))
    refine bodyPost_ret (results_cell_row rfl _ _ gb2 51 #[.int .i64 0,.int .i64 t1,.int .i64 t2] (0,0) _ rfl (by (with_reducible repeat (first|refine blk_drewN ?_ _|refine blk_drew ?_|refine blk_alloc ?_ _));refine blk_put (cs:=#[.int .i64 0,.int .i64 t1,.int .i64 0]) ?_ 2 _ rfl;(with_reducible repeat (first|refine blk_drewN ?_ _|refine blk_drew ?_|refine blk_alloc ?_ _));refine blk_put (cs:=#[.int .i64 0,.int .i64 0,.int .i64 0]) ?_ 1 _ rfl;(with_reducible repeat (first|refine blk_drewN ?_ _|refine blk_drew ?_|refine blk_alloc ?_ _));refine blk_put (cs:=#[.int .i64 0,.int .i64 0,.int .i64 0]) ?_ 0 _ rfl;(with_reducible repeat (first|refine blk_drewN ?_ _|refine blk_drew ?_|refine blk_alloc ?_ _));exact BK2.out) Tryz.underlying51 rfl qz2) rfl ?_;exact ⟨qz15,qz11⟩
   (try dsimp only at H);replace H:=zS' H;rcases H with ⟨c18,H⟩|⟨c18,H⟩
   ·have ⟨c18b0,c18b1⟩:=zNe c18;replace H:=zB H;obtain ⟨⟨t4,t5,t6⟩,A30,H⟩:=H;(try dsimp only at H);simp only [Option.some.injEq,Prod.mk.injEq] at H;obtain ⟨rfl,rfl,rfl⟩:=H;have hnb31:=NB1_2.out;have hnc31:=NB2_1.out;have ⟨_,_,_,_,_,_⟩:=zC3 BK1.out;go_wp2_with (first|(refine zL 85 (some 32) Tryz.func85 #[.int .i64 a0,.agg #[.int .i64 a1_0,.int .i64 a1_1,.int .i64 a1_2]] (h:=?_);refine (spec_pzValue.calls kj2 a0 a1_0 a1_1 a1_2 t4 t5 t6 _ A30.out).mono ?_;rintro e _ ⟨rfl,hb⟩;refine ⟨_,rfl,?_⟩;replace BK1:=zBb BK1 hb;replace BK2:=zBb BK2 hb;replace HB:=qa (below_step qz11 hb);clear hb;have ⟨_,_,_,_,_,_⟩:=zC3 BK2.out))
    refine bodyPost_ret (results_cell_row rfl _ _ gb2 51 #[.int .i64 a0,.int .i64 t4,.int .i64 t5] (0,0) _ rfl (by (with_reducible repeat (first|refine blk_drewN ?_ _|refine blk_drew ?_|refine blk_alloc ?_ _));refine blk_put (cs:=#[.int .i64 a0,.int .i64 t4,.int .i64 0]) ?_ 2 _ rfl;(with_reducible repeat (first|refine blk_drewN ?_ _|refine blk_drew ?_|refine blk_alloc ?_ _));refine blk_put (cs:=#[.int .i64 a0,.int .i64 0,.int .i64 0]) ?_ 1 _ rfl;(with_reducible repeat (first|refine blk_drewN ?_ _|refine blk_drew ?_|refine blk_alloc ?_ _));refine blk_put (cs:=#[.int .i64 0,.int .i64 0,.int .i64 0]) ?_ 0 _ rfl;(with_reducible repeat (first|refine blk_drewN ?_ _|refine blk_drew ?_|refine blk_alloc ?_ _));exact BK2.out) Tryz.underlying51 rfl qz2) rfl ?_;exact ⟨qz15,qz11⟩
   have ⟨c18b0,c18b1⟩:=zEq c18;clear c18;replace H:=zS H;rcases H with ⟨c19,H⟩|⟨c19,H⟩
   ·have ⟨c19b0,c19b1⟩:=zEq c19;clear c19;replace H:=zB H;obtain ⟨⟨t7,t8,t9⟩,A20,H⟩:=H;(try dsimp only at H);simp only [Option.some.injEq,Prod.mk.injEq] at H;obtain ⟨rfl,rfl,rfl⟩:=H;have hnb21:=NB1_2.out;have hnc21:=NB2_1.out;have ⟨_,_,_,_,_,_⟩:=zC3 BK1.out;go_wp2_with (first|(refine zL 85 (some 32) Tryz.func85 #[.int .i64 1,.agg #[.int .i64 a1_0,.int .i64 a1_1,.int .i64 a1_2]] (h:=?_);refine (spec_pzValue.calls kj2 1 a1_0 a1_1 a1_2 t7 t8 t9 _ A20.out).mono ?_;rintro e _ ⟨rfl,hb⟩;refine ⟨_,rfl,?_⟩;replace BK1:=zBb BK1 hb;replace BK2:=zBb BK2 hb;replace HB:=qa (below_step qz11 hb);clear hb;have ⟨_,_,_,_,_,_⟩:=zC3 BK2.out))
    refine bodyPost_ret (results_cell_row rfl _ _ gb2 51 #[.int .i64 1,.int .i64 t7,.int .i64 t8] (0,0) _ rfl (by (with_reducible repeat (first|refine blk_drewN ?_ _|refine blk_drew ?_|refine blk_alloc ?_ _));refine blk_put (cs:=#[.int .i64 1,.int .i64 t7,.int .i64 0]) ?_ 2 _ rfl;(with_reducible repeat (first|refine blk_drewN ?_ _|refine blk_drew ?_|refine blk_alloc ?_ _));refine blk_put (cs:=#[.int .i64 1,.int .i64 0,.int .i64 0]) ?_ 1 _ rfl;(with_reducible repeat (first|refine blk_drewN ?_ _|refine blk_drew ?_|refine blk_alloc ?_ _));refine blk_put (cs:=#[.int .i64 0,.int .i64 0,.int .i64 0]) ?_ 0 _ rfl;(with_reducible repeat (first|refine blk_drewN ?_ _|refine blk_drew ?_|refine blk_alloc ?_ _));exact BK2.out) Tryz.underlying51 rfl qz2) rfl ?_;exact ⟨qz15,qz11⟩
   have ⟨c19b0,c19b1⟩:=zNe c19;replace H:=zB H;obtain ⟨⟨t10,t11,t12⟩,A25,H⟩:=H;(try dsimp only at H);simp only [Option.some.injEq,Prod.mk.injEq] at H;obtain ⟨rfl,rfl,rfl⟩:=H;have hnb26:=NB1_2.out;have hnc26:=NB2_1.out;have ⟨_,_,_,_,_,_⟩:=zC3 BK1.out;go_wp2_with (first|(refine zL 85 (some 32) Tryz.func85 #[.int .i64 a0,.agg #[.int .i64 a1_0,.int .i64 a1_1,.int .i64 a1_2]] (h:=?_);refine (spec_pzValue.calls kj2 a0 a1_0 a1_1 a1_2 t10 t11 t12 _ A25.out).mono ?_;rintro e _ ⟨rfl,hb⟩;refine ⟨_,rfl,?_⟩;replace BK1:=zBb BK1 hb;replace BK2:=zBb BK2 hb;replace HB:=qa (below_step qz11 hb);clear hb;have ⟨_,_,_,_,_,_⟩:=zC3 BK2.out))
   refine bodyPost_ret (results_cell_row rfl _ _ gb2 51 #[.int .i64 a0,.int .i64 t10,.int .i64 t11] (0,0) _ rfl (by (with_reducible repeat (first|refine blk_drewN ?_ _|refine blk_drew ?_|refine blk_alloc ?_ _));refine blk_put (cs:=#[.int .i64 a0,.int .i64 t10,.int .i64 0]) ?_ 2 _ rfl;(with_reducible repeat (first|refine blk_drewN ?_ _|refine blk_drew ?_|refine blk_alloc ?_ _));refine blk_put (cs:=#[.int .i64 a0,.int .i64 0,.int .i64 0]) ?_ 1 _ rfl;(with_reducible repeat (first|refine blk_drewN ?_ _|refine blk_drew ?_|refine blk_alloc ?_ _));refine blk_put (cs:=#[.int .i64 0,.int .i64 0,.int .i64 0]) ?_ 0 _ rfl;(with_reducible repeat (first|refine blk_drewN ?_ _|refine blk_drew ?_|refine blk_alloc ?_ _));exact BK2.out) Tryz.underlying51 rfl qz2) rfl ?_;exact ⟨qz15,qz11⟩
end Go.Proofs.YtdphjeiccokhnaaGreatDoor.QFnChainsGuessed
