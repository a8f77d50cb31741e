/- The functions that a law reaches, as plain Lean functions, and their walks. Written by a program of this session, turned out of the kit's print. Conditions: those that each theorem names. -/
import Derived.Test.YtdphjeiccokhnaaGreatDoorShelf
import Derived.Test.YtdphjeiccokhnaaGreatDoorLibW
import Derived.Test.YtdphjeiccokhnaaGreatDoorMac
import Derived.Test.YtdphjeiccokhnaaGreatDoorQFnChainsGuessedx0
import Derived.Test.YtdphjeiccokhnaaGreatDoorQFnChainsGuessedx6
import Derived.Test.YtdphjeiccokhnaaGreatDoorQFnChainsGuessedx7
import Derived.Test.YtdphjeiccokhnaaGreatDoorQFnChainsGuessedx10
import Derived.Test.YtdphjeiccokhnaaGreatDoorQFnChainsGuessedx11
import Derived.Test.YtdphjeiccokhnaaGreatDoorQFnChainsGuessedx13
import Derived.Test.YtdphjeiccokhnaaGreatDoorQFnChainsGuessedx17
namespace Go.Proofs.YtdphjeiccokhnaaGreatDoor.QFnChainsGuessed
open Go.RowKit Go.Proofs.YtdphjeiccokhnaaGreatDoorW.PrintWords Go.Proofs.YtdphjeiccokhnaaGreatDoorW.PrintLast Go.Proofs.YtdphjeiccokhnaaGreatDoorW.PrintMore Go.Proofs.YtdphjeiccokhnaaGreatDoor.Mac
attribute [local go_sem] max2_int min2_int max_two min_two max_three min_three max_four min_four
attribute [local go_sem] Go.Proofs.YtdphjeiccokhnaaGreatDoor.Kit.isSome_setCell
set_option linter.unusedVariables false
set_option linter.unusedSimpArgs false
def laws_uSame.l0:Nat→List Int→List Int→Int→Int→Option (Bool)
  | 0,_,_,_,_=>none
  | k+1,x0,x1,x12,x13=>if x13<x12 then (if 0≤x13 then (if x13<(x0.length:Int) then (if x13<(x1.length:Int) then (if (rd x0 x13)=(rd x1 x13) then (laws_uSame.l0 k x0 x1 x12 (wrap64 (x13+1))) else (some false)) else (none)) else (none)) else (none)) else (some true)
def laws_uSame.f (k:Nat) (l0:List Int) (l1:List Int):Option (Bool):=if (l0.length:Int)=(l1.length:Int) then (laws_uSame.l0 k l0 l1 (l0.length:Int) 0) else (some false)
theorem laws_uSame.mono_l:∀k,(∀y0 y1 y2 y3,LeO (laws_uSame.l0 k y0 y1 y2 y3) (laws_uSame.l0 (k+1) y0 y1 y2 y3))
  | 0=>fun _ _ _ _ r h=>by simp [laws_uSame.l0] at h
  | k+1=>by
    have ih0:=laws_uSame.mono_l k
    · intro y0 y1 y2 y3
      unfold laws_uSame.l0
      repeat' first
   | with_reducible first|exact ih0 _ _ _ _|exact LeO.refl _|exact LeO.none _|refine LeO.ite ?_ ?_|refine LeO.bind ?_ (fun _=>?_)
theorem laws_uSame.mono:∀a0 a1 k,LeO (laws_uSame.f k a0 a1) (laws_uSame.f (k+1) a0 a1):=by
  intro a0 a1 k
  have ih0:=laws_uSame.mono_l k
  unfold laws_uSame.f
  repeat' first
   | with_reducible first|exact ih0 _ _ _ _|exact LeO.refl _|exact LeO.none _|refine LeO.ite ?_ ?_|refine LeO.bind ?_ (fun _=>?_)
set_option maxHeartbeats 8000000 in
set_option maxRecDepth 100000 in
theorem laws_uSame.calls (k:Nat) (A0:Option Addr) (c0:Nat) (l0:List Int) (A1:Option Addr) (c1:Nat) (l1:List Int) (r:Bool) (w:World) (hr0:Kd.C (Kd.int .i64) w A0 l0.length l0) (hc0:l0.length≤c0) (hr1:Kd.C (Kd.int .i64) w A1 l1.length l1) (hc1:l1.length≤c1) (h:laws_uSame.f k l0 l1=some r) :
    Calls Tryz.prog 25 #[.slice A0 l0.length c0,.slice A1 l1.length c1] w fun e w'=>e=.returned (.bool r)∧Drawn0 w w':=by
 have HR0:=Aside0.mk hr0;have HC0:=Aside0.mk hc0;clear hr0 hc0;have HR1:=Aside0.mk hr1;have HC1:=Aside0.mk hc1;clear hr1 hc1;have H:=h;unfold laws_uSame.f at H;clear h;replace H:=zS' H;rcases H with ⟨c3,H⟩|⟨c3,H⟩
 ·have ⟨c3b0,c3b1⟩:=zNe c3;have c3b2:(l0.length==l1.length)=false:=by first|simpa using c3|(simp at c3 ⊢;omega)
  obtain rfl:=Option.some.inj H;go_enter Tryz.func25,Tryz.ntmps25;go_wp2;(repeat (go_quiet (fail);try go_wp2));go_ret;exact ⟨qz23,qz85⟩
 have ⟨c3b0,c3b1⟩:=zEq c3;have c3b2:(l0.length==l1.length)=true:=by first|simpa using c3|(simp at c3 ⊢;omega)
 clear c3;have H':=Aside0.mk H;clear H;go_enter Tryz.func25,Tryz.ntmps25;go_wp2;(repeat (go_quiet (fail);try go_wp2));go_loopg [13] k (fun kq v13 w'=>∃(x13_1:Int),v13=.int .i64 x13_1∧Aside0 (laws_uSame.l0 kq l0 l1 (l0.length:Int) x13_1=some r)∧Aside0 (kq≤k)∧Drawn0 w w')
 case atStart=>exact ⟨(0),qz23,H',⟨Nat.le_refl _⟩,qz85⟩
 case round=>
  clear H';obtain ⟨x13_1,rfl,HA,HK1,⟨m1,rfl⟩⟩:=hrel
  cases gk with
  | zero=>exact absurd HA.out (by simp [laws_uSame.l0])
  | succ k1=>
   have H:=HA.out;clear HA;simp only [laws_uSame.l0] at H;replace H:=zD' H;rcases H with ⟨c4b0,H⟩|⟨c4b0,H⟩
   ·obtain rfl:=Option.some.inj H;go_wp2;(repeat (go_quiet (fail);try go_wp2));go_ret;exact ⟨qz23,qz85⟩
   replace H:=zDg' H;obtain ⟨c5b0,H⟩:=H;replace H:=zDg' H;obtain ⟨c6b0,H⟩:=H;replace H:=zDg' H;obtain ⟨c7b0,H⟩:=H;replace H:=zS' H;rcases H with ⟨c8,H⟩|⟨c8,H⟩
   ·have ⟨c8b0,c8b1⟩:=zNe c8;obtain rfl:=Option.some.inj H;have p533:0≤(x13_1:Int):=of_decide_eq_true qz38;have q533:x13_1<(l0.length:Int):=of_decide_eq_true qz38;obtain ⟨ad533,e533,hx533_0⟩:=Kd.at_int HR0.out x13_1 p533 q533
    cases e533
    replace p533:=eq_true p533;replace q533:=eq_true q533;have p534:0≤(x13_1:Int):=of_decide_eq_true qz38;have q534:x13_1<(l1.length:Int):=of_decide_eq_true qz38;obtain ⟨ad534,e534,hx534_0⟩:=Kd.at_int HR1.out x13_1 p534 q534
    cases e534
    replace p534:=eq_true p534;replace q534:=eq_true q534;go_wp2;(repeat (go_quiet (fail);try go_wp2));go_ret;exact ⟨qz23,qz85⟩
   have ⟨c8b0,c8b1⟩:=zEq c8;clear c8;have H':=Aside0.mk H;clear H;have p533:0≤(x13_1:Int):=of_decide_eq_true qz38;have q533:x13_1<(l0.length:Int):=of_decide_eq_true qz38;obtain ⟨ad533,e533,hx533_0⟩:=Kd.at_int HR0.out x13_1 p533 q533
   cases e533
   replace p533:=eq_true p533;replace q533:=eq_true q533;have p534:0≤(x13_1:Int):=of_decide_eq_true qz38;have q534:x13_1<(l1.length:Int):=of_decide_eq_true qz38;obtain ⟨ad534,e534,hx534_0⟩:=Kd.at_int HR1.out x13_1 p534 q534
   cases e534
   replace p534:=eq_true p534;replace q534:=eq_true q534;go_wp2;(repeat (go_quiet (fail);try go_wp2));go_roundg k1
   case measure=>have:=HK1.out;omega
   case rel=>exact ⟨(wrap64 (x13_1+1)),qz23,H',⟨qz55⟩,qz85⟩
def spec_IsPuzzle.f (k:Nat) (a0_0:Int) (l0_1:List (S51)):Option (Bool):=(spec_pzGood.f k a0_0 l0_1).bind fun t536=>(some t536)
theorem spec_IsPuzzle.mono:∀a0 a1 k,LeO (spec_IsPuzzle.f k a0 a1) (spec_IsPuzzle.f (k+1) a0 a1):=by
  intro a0 a1 k
  unfold spec_IsPuzzle.f
  repeat' first
   | with_reducible first|exact spec_pzGood.mono _ _ _|exact LeO.refl _|exact LeO.none _|refine LeO.ite ?_ ?_|refine LeO.bind ?_ (fun _=>?_)
set_option maxHeartbeats 8000000 in
set_option maxRecDepth 100000 in
theorem spec_IsPuzzle.calls (k:Nat) (a0_0:Int) (A0_1:Option Addr) (c0_1:Nat) (l0_1:List (S51)) (r:Bool) (w:World) (hr0_1:Kd.C k51 w A0_1 l0_1.length l0_1) (hc0_1:l0_1.length≤c0_1) (h:spec_IsPuzzle.f k a0_0 l0_1=some r) :
    Calls Tryz.prog 27 #[.agg #[.int .i64 a0_0,.slice A0_1 l0_1.length c0_1]] w fun e w'=>e=.returned (.bool r)∧Below w.heap.size w w':=by
 have hu26:=Tryz.underlying26;have HR0_1:=Aside0.mk hr0_1;have HC0_1:=Aside0.mk hc0_1;clear hr0_1 hc0_1;have HB:=qa (Below.refl w.heap.size w);have H:=h;unfold spec_IsPuzzle.f at H;clear h;replace H:=zB H;obtain ⟨t1,A2,H⟩:=H;obtain rfl:=Option.some.inj H;go_enter Tryz.func27,Tryz.ntmps27
 go_wp2_with (first|(refine zX (N:=1) (cs:=#[.int .i64 a0_0,.slice A0_1 l0_1.length c0_1]) (t:=26) (h:=?_);intro gb1 hg _ hbox hb;have BK1:=qa hbox;have GE1:=qa (qz3:w.heap.size≤gb1);replace HB:=zs HB hb;clear hb hbox hg;have ⟨_,_,_,_⟩:=zC2 BK1.out)|(refine zL 38 (some 4) Tryz.func38 #[.agg #[.int .i64 a0_0,.slice A0_1 l0_1.length c0_1]] (h:=?_);refine (spec_pzGood.calls k a0_0 _ _ l0_1 t1 _ qz33 HC0_1.out A2.out).mono ?_;rintro e _ ⟨rfl,hb⟩;refine ⟨_,rfl,?_⟩;replace BK1:=zBb BK1 hb;replace HB:=qa (below_step qz6 hb);clear hb))
 go_ret;exact ⟨qz15,qz6⟩
def impl_isHidden.f (a0_0:Int) (a0_1:Int) (a0_2:Int):Option (Bool):=(impl_IsChain.f a0_0 a0_1 a0_2).bind fun t538=>(if t538=true then (some (decide (a0_2≤8))) else (some false))
set_option maxHeartbeats 8000000 in
set_option maxRecDepth 100000 in
theorem impl_isHidden.calls (a0_0:Int) (a0_1:Int) (a0_2:Int) (r:Bool) (w:World) (h:impl_isHidden.f a0_0 a0_1 a0_2=some r) :
    Calls Tryz.prog 51 #[.agg #[.int .i64 a0_0,.int .i64 a0_1,.int .i64 a0_2]] w fun e w'=>e=.returned (.bool r)∧Below w.heap.size w w':=by
 have hu34:=Tryz.underlying34;have HB:=qa (Below.refl w.heap.size w);have H:=h;unfold impl_isHidden.f at H;clear h;replace H:=zB H;obtain ⟨t1,A2,H⟩:=H;replace H:=zI H;rcases H with ⟨rfl,H⟩|⟨rfl,H⟩
 ·(try dsimp only at H);obtain rfl:=Option.some.inj H;go_enter Tryz.func51,Tryz.ntmps51
  go_wp2_with (first|(refine zX (N:=1) (cs:=#[.int .i64 a0_0,.int .i64 a0_1,.int .i64 a0_2]) (t:=34) (h:=?_);intro gb1 hg _ hbox hb;have BK1:=qa hbox;have GE1:=qa (qz3:w.heap.size≤gb1);replace HB:=zs HB hb;clear hb hbox hg;have ⟨_,_,_,_,_,_⟩:=zC3 BK1.out)|(refine zL 28 (some 4) Tryz.func28 #[.agg #[.int .i64 a0_0,.int .i64 a0_1,.int .i64 a0_2]] (h:=?_);refine (impl_IsChain.calls a0_0 a0_1 a0_2 true _ A2.out).mono ?_;rintro e _ ⟨rfl,hb⟩;refine ⟨_,rfl,?_⟩;replace BK1:=zBb BK1 hb;replace HB:=qa (below_step qz6 hb);clear hb;have ⟨_,_,_,_,_,_⟩:=zC3 BK1.out))
  go_ret;exact ⟨qz15,qz6⟩
 (try dsimp only at H);obtain rfl:=Option.some.inj H;go_enter Tryz.func51,Tryz.ntmps51
 go_wp2_with (first|(refine zX (N:=1) (cs:=#[.int .i64 a0_0,.int .i64 a0_1,.int .i64 a0_2]) (t:=34) (h:=?_);intro gb1 hg _ hbox hb;have BK1:=qa hbox;have GE1:=qa (qz3:w.heap.size≤gb1);replace HB:=zs HB hb;clear hb hbox hg;have ⟨_,_,_,_,_,_⟩:=zC3 BK1.out)|(refine zL 28 (some 4) Tryz.func28 #[.agg #[.int .i64 a0_0,.int .i64 a0_1,.int .i64 a0_2]] (h:=?_);refine (impl_IsChain.calls a0_0 a0_1 a0_2 false _ A2.out).mono ?_;rintro e _ ⟨rfl,hb⟩;refine ⟨_,rfl,?_⟩;replace BK1:=zBb BK1 hb;replace HB:=qa (below_step qz6 hb);clear hb))
 go_ret;exact ⟨qz15,qz6⟩
def impl_DoesFit.f (k:Nat) (a0_0:Int) (a0_1:Int) (a0_2:Int) (a1_0:Int) (a1_1:Int) (a1_2:Int):Option (Bool×Bool):=(impl_isHidden.f a1_0 a1_1 a1_2).bind fun t541=>(if t541=true then ((impl_IsClue.f k a1_2 a0_0 a0_1 a0_2).bind fun t542=>(if t542=true then ((impl_Chain_fits.f k a1_0 a1_1 a1_2 a0_0 a0_1 a0_2).bind fun t543=>(some (t543,true))) else (some (false,false)))) else (some (false,false)))
theorem impl_DoesFit.mono:∀a0 a1 a2 a3 a4 a5 k,LeO (impl_DoesFit.f k a0 a1 a2 a3 a4 a5) (impl_DoesFit.f (k+1) a0 a1 a2 a3 a4 a5):=by
  intro a0 a1 a2 a3 a4 a5 k
  unfold impl_DoesFit.f
  repeat' first
   | with_reducible first|exact impl_Chain_fits.mono _ _ _ _ _ _ _|exact impl_IsClue.mono _ _ _ _ _|exact LeO.refl _|exact LeO.none _|refine LeO.ite ?_ ?_|refine LeO.bind ?_ (fun _=>?_)
set_option maxHeartbeats 8000000 in
set_option maxRecDepth 100000 in
theorem impl_DoesFit.calls (k:Nat) (a0_0:Int) (a0_1:Int) (a0_2:Int) (a1_0:Int) (a1_1:Int) (a1_2:Int) (r1:Bool) (r2:Bool) (w:World) (h:impl_DoesFit.f k a0_0 a0_1 a0_2 a1_0 a1_1 a1_2=some (r1,r2)) :
    Calls Tryz.prog 29 #[.agg #[.int .i64 a0_0,.int .i64 a0_1,.int .i64 a0_2],.agg #[.int .i64 a1_0,.int .i64 a1_1,.int .i64 a1_2]] w fun e w'=>e=.returned (.tuple #[.bool r1,.bool r2])∧Below w.heap.size w w':=by
 have hu51:=Tryz.underlying51;have hu34:=Tryz.underlying34;have HB:=qa (Below.refl w.heap.size w);have H:=h;unfold impl_DoesFit.f at H;clear h;replace H:=zB H;obtain ⟨t1,A3,H⟩:=H;replace H:=zI' H;rcases H with ⟨rfl,H⟩|⟨rfl,H⟩
 ·(try dsimp only at H);simp only [Option.some.injEq,Prod.mk.injEq] at H;obtain ⟨rfl,rfl⟩:=H;go_enter Tryz.func29,Tryz.ntmps29
  go_wp2_with (first|(refine zX (N:=2) (cs:=#[.int .i64 a0_0,.int .i64 a0_1,.int .i64 a0_2]) (t:=51) (h:=?_);intro gb1 hg _ hbox hb;have BK1:=qa hbox;have GE1:=qa (qz3:w.heap.size≤gb1);replace HB:=zs HB hb;clear hb hbox hg)|(refine zX (N:=3) (cs:=#[.int .i64 a1_0,.int .i64 a1_1,.int .i64 a1_2]) (t:=34) (h:=?_);intro gb2 hg _ hbox hb;have BK2:=qa hbox;have GE2:=qa (qz5:w.heap.size≤gb2);replace HB:=qa (below_step qz6 hb);have NB1_2:=qa (qz44:gb1≠gb2);have NB2_1:=qa (qz45:gb2≠gb1);replace BK1:=zBb BK1 hb;clear hb hbox hg;have hnb29:=NB2_1.out;have hnc29:=NB1_2.out;have ⟨_,_,_,_,_,_⟩:=zC3 BK2.out)|(refine zL 51 (some 7) Tryz.func51 #[.agg #[.int .i64 a1_0,.int .i64 a1_1,.int .i64 a1_2]] (h:=?_);refine (impl_isHidden.calls a1_0 a1_1 a1_2 false _ A3.out).mono ?_;rintro e _ ⟨rfl,hb⟩;refine ⟨_,rfl,?_⟩;replace BK1:=zBb BK1 hb;replace BK2:=zBb BK2 hb;replace HB:=qa (below_step qz11 hb);clear hb))
  go_ret2;exact ⟨qz15,qz11⟩
 (try dsimp only at H);replace H:=zB H;obtain ⟨t2,A5,H⟩:=H;replace H:=zI' H;rcases H with ⟨rfl,H⟩|⟨rfl,H⟩
 ·(try dsimp only at H);simp only [Option.some.injEq,Prod.mk.injEq] at H;obtain ⟨rfl,rfl⟩:=H;go_enter Tryz.func29,Tryz.ntmps29
  go_wp2_with (first|(refine zX (N:=2) (cs:=#[.int .i64 a0_0,.int .i64 a0_1,.int .i64 a0_2]) (t:=51) (h:=?_);intro gb1 hg _ hbox hb;have BK1:=qa hbox;have GE1:=qa (qz3:w.heap.size≤gb1);replace HB:=zs HB hb;clear hb hbox hg)|(refine zX (N:=3) (cs:=#[.int .i64 a1_0,.int .i64 a1_1,.int .i64 a1_2]) (t:=34) (h:=?_);intro gb2 hg _ hbox hb;have BK2:=qa hbox;have GE2:=qa (qz5:w.heap.size≤gb2);replace HB:=qa (below_step qz6 hb);have NB1_2:=qa (qz44:gb1≠gb2);have NB2_1:=qa (qz45:gb2≠gb1);replace BK1:=zBb BK1 hb;clear hb hbox hg;have hnb21:=NB2_1.out;have hnc21:=NB1_2.out;have ⟨_,_,_,_,_,_⟩:=zC3 BK2.out)|(refine zL 51 (some 7) Tryz.func51 #[.agg #[.int .i64 a1_0,.int .i64 a1_1,.int .i64 a1_2]] (h:=?_);refine (impl_isHidden.calls a1_0 a1_1 a1_2 true _ A3.out).mono ?_;rintro e _ ⟨rfl,hb⟩;refine ⟨_,rfl,?_⟩;replace BK1:=zBb BK1 hb;replace BK2:=zBb BK2 hb;replace HB:=qa (below_step qz11 hb);clear hb;have ⟨_,_,_,_,_,_⟩:=zC3 BK2.out;have ⟨_,_,_,_,_,_⟩:=zC3 BK1.out)|(go_at_call 50;(with_reducible refine (impl_IsClue.calls k a1_2 a0_0 a0_1 a0_2 false _ A5.out).mono ?_);rintro e _ ⟨rfl,hb⟩;replace BK1:=zBb BK1 hb;replace BK2:=zBb BK2 hb;replace HB:=qa (below_step qz11 hb);clear hb))
  go_ret2;exact ⟨qz15,qz11⟩
 (try dsimp only at H);replace H:=zB H;obtain ⟨t3,A7,H⟩:=H;simp only [Option.some.injEq,Prod.mk.injEq] at H;obtain ⟨rfl,rfl⟩:=H;go_enter Tryz.func29,Tryz.ntmps29
 go_wp2_with (first|(refine zX (N:=2) (cs:=#[.int .i64 a0_0,.int .i64 a0_1,.int .i64 a0_2]) (t:=51) (h:=?_);intro gb1 hg _ hbox hb;have BK1:=qa hbox;have GE1:=qa (qz3:w.heap.size≤gb1);replace HB:=zs HB hb;clear hb hbox hg)|(refine zX (N:=3) (cs:=#[.int .i64 a1_0,.int .i64 a1_1,.int .i64 a1_2]) (t:=34) (h:=?_);intro gb2 hg _ hbox hb;have BK2:=qa hbox;have GE2:=qa (qz5:w.heap.size≤gb2);replace HB:=qa (below_step qz6 hb);have NB1_2:=qa (qz44:gb1≠gb2);have NB2_1:=qa (qz45:gb2≠gb1);replace BK1:=zBb BK1 hb;clear hb hbox hg;have hnb10:=NB2_1.out;have hnc10:=NB1_2.out;have ⟨_,_,_,_,_,_⟩:=zC3 BK2.out)|(refine zL 51 (some 7) Tryz.func51 #[.agg #[.int .i64 a1_0,.int .i64 a1_1,.int .i64 a1_2]] (h:=?_);refine (impl_isHidden.calls a1_0 a1_1 a1_2 true _ A3.out).mono ?_;rintro e _ ⟨rfl,hb⟩;refine ⟨_,rfl,?_⟩;replace BK1:=zBb BK1 hb;replace BK2:=zBb BK2 hb;replace HB:=qa (below_step qz11 hb);clear hb;have ⟨_,_,_,_,_,_⟩:=zC3 BK2.out;have ⟨_,_,_,_,_,_⟩:=zC3 BK1.out)|(go_at_call 50;(with_reducible refine (impl_IsClue.calls k a1_2 a0_0 a0_1 a0_2 true _ A5.out).mono ?_);rintro e _ ⟨rfl,hb⟩;replace BK1:=zBb BK1 hb;replace BK2:=zBb BK2 hb;replace HB:=qa (below_step qz11 hb);clear hb;have ⟨_,_,_,_,_,_⟩:=zC3 BK2.out;have ⟨_,_,_,_,_,_⟩:=zC3 BK1.out)|(refine zL 52 (some 18) Tryz.func52 #[.agg #[.int .i64 a1_0,.int .i64 a1_1,.int .i64 a1_2],.agg #[.int .i64 a0_0,.int .i64 a0_1,.int .i64 a0_2]] (h:=?_);refine (impl_Chain_fits.calls k a1_0 a1_1 a1_2 a0_0 a0_1 a0_2 t3 _ A7.out).mono ?_;rintro e _ ⟨rfl,hb⟩;refine ⟨_,rfl,?_⟩;replace BK1:=zBb BK1 hb;replace BK2:=zBb BK2 hb;replace HB:=qa (below_step qz11 hb);clear hb))
 go_ret2;exact ⟨qz15,qz11⟩
def impl_DropClue.f (k:Nat) (a0_0:Int) (l0_1:List (S51)) (a1:Int):Option (Int×(List (S51))×Bool):=(impl_IsPuzzle.f k a0_0 l0_1).bind fun t546=>(if t546=true then ((impl_within.f a1 0 (wrap64 ((l0_1.length:Int) - 1))).bind fun t547=>(if t547=true then ((impl_without.f l0_1 a1).bind fun t548=>(some (a0_0,t548,true))) else (some (0,([]:List (S51)),false)))) else (some (0,([]:List (S51)),false)))
theorem impl_DropClue.mono:∀a0 a1 a2 k,LeO (impl_DropClue.f k a0 a1 a2) (impl_DropClue.f (k+1) a0 a1 a2):=by
  intro a0 a1 a2 k
  unfold impl_DropClue.f
  repeat' first
   | with_reducible first|exact impl_IsPuzzle.mono _ _ _|exact LeO.refl _|exact LeO.none _|refine LeO.ite ?_ ?_|refine LeO.bind ?_ (fun _=>?_)
def impl_DropClue.T3:Bool×List (List Nat×List Nat):=(true,[([],[]),([0],[0]),([],[]),([2],[2]),([],[]),([3,4],[3,4]),([1,5],[1,5]),([6,5,0,1,2,3,4,5,6],[6]),([7,0,1,2,3,4,5,6,7],[])])
def impl_DropClue.B3:List Nat:=[0,1,0,4,0,28,63,127,255]
theorem impl_DropClue.tab3:rtab .any (opsOf Tryz.f30 3)=impl_DropClue.T3:=by kernel_rfl
theorem impl_DropClue.bits3:waitsOk impl_DropClue.T3.2 impl_DropClue.B3=true:=by kernel_rfl
set_option maxHeartbeats 8000000 in
set_option maxRecDepth 100000 in
theorem impl_DropClue.calls (k:Nat) (a0_0:Int) (A0_1:Option Addr) (c0_1:Nat) (l0_1:List (S51)) (a1:Int) (r1:Int) (r2:List (S51)) (r3:Bool) (w:World) (hr0_1:Kd.C k51 w A0_1 l0_1.length l0_1) (hc0_1:l0_1.length≤c0_1) (h:impl_DropClue.f k a0_0 l0_1 a1=some (r1,r2,r3)) :
    Calls Tryz.prog 30 #[.agg #[.int .i64 a0_0,.slice A0_1 l0_1.length c0_1],.int .i64 a1] w fun e w'=>∃v1_:Value,e=.returned (.tuple #[.agg #[.int .i64 r1,v1_],.bool r3])∧Kd.R k51 51 w' w.heap.size (fun _=>True) v1_ r2∧Below w.heap.size w w':=by
 have hu26:=Tryz.underlying26;have HR0_1:=Aside0.mk hr0_1;have HC0_1:=Aside0.mk hc0_1;clear hr0_1 hc0_1;have HB:=qa (Below.refl w.heap.size w);have H:=h;unfold impl_DropClue.f at H;clear h;replace H:=zB H;obtain ⟨t1,A3,H⟩:=H;replace H:=zI' H;rcases H with ⟨rfl,H⟩|⟨rfl,H⟩
 ·(try dsimp only at H);simp only [Option.some.injEq,Prod.mk.injEq] at H;obtain ⟨rfl,rfl,rfl⟩:=H;go_enter Tryz.func30,Tryz.ntmps30
  go_wp2_with (first|((with_reducible refine gate_dst (N:=2) rfl ?_);(try (refine gate_guard (by rfl) ?_;dsimp only));refine box_event ?hg (N:=2) ?hd (cs:=#[.int .i64 a0_0,.slice A0_1 l0_1.length c0_1]) (t:=26) ?hr ?_;(case hd=>rfl);(case hg=>rfl);(case hr=>exact qz37);intro gb1 hg _ hbox hb;have BK1:=qa hbox;have GE1:=qa (qz3:w.heap.size≤gb1);replace HB:=zs HB hb;clear hb hbox hg)|((with_reducible refine gate_dst (N:=4) rfl ?_);(try (refine gate_guard (by rfl) ?_;dsimp only));refine box_event ?hg (N:=4) ?hd (cs:=#[.int .i64 0,.slice none 0 0]) (t:=26) ?hr ?_;(case hd=>rfl);(case hg=>rfl);(case hr=>exact qz37);intro gb2 hg _ hbox hb;have BK2:=qa hbox;have GE2:=qa (qz5:w.heap.size≤gb2);replace HB:=qa (below_step qz6 hb);have NB1_2:=qa (qz50:gb1≠gb2);have NB2_1:=qa (qz51:gb2≠gb1);replace BK1:=zBb BK1 hb;clear hb hbox hg;have hnb28:=NB1_2.out;have hnc28:=NB2_1.out;have ⟨_,_,_,_⟩:=zC2 BK1.out)|(refine zL 26 (some 7) Tryz.func26 #[.agg #[.int .i64 a0_0,.slice A0_1 l0_1.length c0_1]] (h:=?_);refine (impl_IsPuzzle.calls k a0_0 _ _ l0_1 false _ qz33 HC0_1.out A3.out).mono ?_;rintro e _ ⟨rfl,hb⟩;refine ⟨_,rfl,?_⟩;replace BK1:=zBb BK1 hb;replace BK2:=zBb BK2 hb;replace HB:=qa (below_step qz11 hb);clear hb;have ⟨_,_,_,_⟩:=zC2 BK2.out))
  refine bodyPost_ret (results_ct rfl _ _ gb2 26 #[.int .i64 0,.slice none 0 0] (0,0) _ rfl qz86 Tryz.underlying26 rfl qz2) rfl ?_;exact ⟨_,qz15,qz24,qz11⟩
 (try dsimp only at H);replace H:=zB H;obtain ⟨t2,A5,H⟩:=H;replace H:=zI' H;rcases H with ⟨rfl,H⟩|⟨rfl,H⟩
 ·(try dsimp only at H);simp only [Option.some.injEq,Prod.mk.injEq] at H;obtain ⟨rfl,rfl,rfl⟩:=H;go_enter Tryz.func30,Tryz.ntmps30
  go_wp2_with (first|((with_reducible refine gate_dst (N:=2) rfl ?_);(try (refine gate_guard (by rfl) ?_;dsimp only));refine box_event ?hg (N:=2) ?hd (cs:=#[.int .i64 a0_0,.slice A0_1 l0_1.length c0_1]) (t:=26) ?hr ?_;(case hd=>rfl);(case hg=>rfl);(case hr=>exact qz37);intro gb1 hg _ hbox hb;have BK1:=qa hbox;have GE1:=qa (qz3:w.heap.size≤gb1);replace HB:=zs HB hb;clear hb hbox hg)|((with_reducible refine gate_dst (N:=4) rfl ?_);(try (refine gate_guard (by rfl) ?_;dsimp only));refine box_event ?hg (N:=4) ?hd (cs:=#[.int .i64 0,.slice none 0 0]) (t:=26) ?hr ?_;(case hd=>rfl);(case hg=>rfl);(case hr=>exact qz37);intro gb2 hg _ hbox hb;have BK2:=qa hbox;have GE2:=qa (qz5:w.heap.size≤gb2);replace HB:=qa (below_step qz6 hb);have NB1_2:=qa (qz50:gb1≠gb2);have NB2_1:=qa (qz51:gb2≠gb1);replace BK1:=zBb BK1 hb;clear hb hbox hg;have hnb21:=NB1_2.out;have hnc21:=NB2_1.out;have ⟨_,_,_,_⟩:=zC2 BK1.out)|(refine zL 26 (some 7) Tryz.func26 #[.agg #[.int .i64 a0_0,.slice A0_1 l0_1.length c0_1]] (h:=?_);refine (impl_IsPuzzle.calls k a0_0 _ _ l0_1 true _ qz33 HC0_1.out A3.out).mono ?_;rintro e w23 ⟨rfl,hb⟩;refine ⟨_,rfl,?_⟩;replace BK1:=zBb BK1 hb;replace BK2:=zBb BK2 hb;replace HB:=qa (below_step qz11 hb);clear hb;have ⟨_,_,_,_⟩:=zC2 BK1.out)|(go_at_call 47;(with_reducible refine (impl_within.calls a1 0 (wrap64 ((l0_1.length:Int) - 1)) false _ A5.out).mono ?_);rintro e w' ⟨rfl,⟨nd,rfl⟩⟩;(try (rw [drewN_self w23];generalize hq_:World.drewN w23 _=w23;have n0_:Aside0 (w23.heap[gb1]? = some (.cells #[.int .i64 a0_0,.slice A0_1 l0_1.length c0_1] 26 (0,0))):=⟨qz87⟩;have n1_:Aside0 (w23.heap[gb2]? = some (.cells #[.int .i64 0,.slice none 0 0] 26 (0,0))):=⟨qz88⟩;have n2_:Aside0 (Below w.heap.size w w23):=⟨qz89⟩;clear BK1 BK2 HB hq_;have BK1:=n0_;have BK2:=n1_;have HB:=n2_;clear n0_ n1_ n2_));have ⟨_,_,_,_⟩:=zC2 BK2.out))
  refine bodyPost_ret (results_ct rfl _ _ gb2 26 #[.int .i64 0,.slice none 0 0] (0,0) _ rfl qz86 Tryz.underlying26 rfl qz2) rfl ?_;exact ⟨_,qz15,qz24,qz11⟩
 (try dsimp only at H);replace H:=zB H;obtain ⟨t3,A7,H⟩:=H;simp only [Option.some.injEq,Prod.mk.injEq] at H;obtain ⟨rfl,rfl,rfl⟩:=H;go_enter Tryz.func30,Tryz.ntmps30
 (try go_wp2_with (first|((with_reducible refine gate_dst (N:=2) rfl ?_);(try (refine gate_guard (by rfl) ?_;dsimp only));refine box_event ?hg (N:=2) ?hd (cs:=#[.int .i64 a0_0,.slice A0_1 l0_1.length c0_1]) (t:=26) ?hr ?_;(case hd=>rfl);(case hg=>rfl);(case hr=>exact qz37);intro gb1 hg _ hbox hb;have BK1:=qa hbox;have GE1:=qa (qz3:w.heap.size≤gb1);replace HB:=zs HB hb;clear hb hbox hg)|((with_reducible refine gate_dst (N:=4) rfl ?_);(try (refine gate_guard (by rfl) ?_;dsimp only));refine box_event ?hg (N:=4) ?hd (cs:=#[.int .i64 0,.slice none 0 0]) (t:=26) ?hr ?_;(case hd=>rfl);(case hg=>rfl);(case hr=>exact qz37);intro gb2 hg _ hbox hb;have BK2:=qa hbox;have GE2:=qa (qz5:w.heap.size≤gb2);replace HB:=qa (below_step qz6 hb);have NB1_2:=qa (qz50:gb1≠gb2);have NB2_1:=qa (qz51:gb2≠gb1);replace BK1:=zBb BK1 hb;clear hb hbox hg;have hnb10:=NB1_2.out;have hnc10:=NB2_1.out;have ⟨_,_,_,_⟩:=zC2 BK1.out)|(refine zL 26 (some 7) Tryz.func26 #[.agg #[.int .i64 a0_0,.slice A0_1 l0_1.length c0_1]] (h:=?_);refine (impl_IsPuzzle.calls k a0_0 _ _ l0_1 true _ qz33 HC0_1.out A3.out).mono ?_;rintro e w12 ⟨rfl,hb⟩;refine ⟨_,rfl,?_⟩;replace BK1:=zBb BK1 hb;replace BK2:=zBb BK2 hb;replace HB:=qa (below_step qz11 hb);clear hb;have ⟨_,_,_,_⟩:=zC2 BK1.out)|(go_at_call 47;(with_reducible refine (impl_within.calls a1 0 (wrap64 ((l0_1.length:Int) - 1)) true _ A5.out).mono ?_);rintro e w' ⟨rfl,⟨nd,rfl⟩⟩;(try (rw [drewN_self w12];generalize hq_:World.drewN w12 _=w12;have n0_:Aside0 (w12.heap[gb1]? = some (.cells #[.int .i64 a0_0,.slice A0_1 l0_1.length c0_1] 26 (0,0))):=⟨qz87⟩;have n1_:Aside0 (w12.heap[gb2]? = some (.cells #[.int .i64 0,.slice none 0 0] 26 (0,0))):=⟨qz88⟩;have n2_:Aside0 (Below w.heap.size w w12):=⟨qz89⟩;clear BK1 BK2 HB hq_;have BK1:=n0_;have BK2:=n1_;have HB:=n2_;clear n0_ n1_ n2_)))))
 replace BK1:=zBd BK1;replace BK2:=zBd BK2;replace HB:=zHd HB;refine start_ (n:=9) (S:=fun w'=>w'.cell? ⟨gb1,0,none⟩=some (.int .i64 a0_0)∧w'.cell? ⟨gb1,1,none⟩=some (.slice A0_1 l0_1.length c0_1)) (ds:=[]) (bq 0 0 0 9) qz2 rfl rfl qz62 (fun hHeld=>?_);refine with_tabW impl_DropClue.tab3 impl_DropClue.bits3 (fun HT_ HW_=>?_);generalize w12.drew=w14 at BK1 BK2 HB hHeld ⊢;refine zrp 0 19 (h:=?_);refine zrp 2 21 (h:=?_);refine zrp 4 23 (h:=?_);refine zrt2 1 20 (h:=?_);refine zrt2 3 22 (h:=?_);refine zO (i:=5) (N:=some 24) (bq 6 25 63 9) (h:=fun K hK=>?_);refine goes_ Tryz.func41 qz2 rfl #[.slice A0_1 l0_1.length c0_1,.int .i64 a1] (by rfl) rfl rfl qz60 ?_
 refine (impl_without.calls _ _ l0_1 a1 t3 _ qz33 HC0_1.out A7.out).mono ?_;rintro e w15 ⟨v549,rfl,ho0,hb⟩;refine ⟨_,rfl,?_⟩;have HO1:=qa (Kd.R_lower ho0 (below_size qz11));replace BK1:=zBb BK1 hb;replace BK2:=zBb BK2 hb;replace HB:=qa (below_step qz11 hb);(try clear hb);(try clear hb2);(try clear hk);(try clear hi);(try clear ho0);obtain ⟨Ao16,co16,eo16⟩:=Kd.R_slice HO1.out
 (first|subst eo16|(injection eo16 with f1_ f2_ f3_;have f4_:=f1_.symm;have f5_:=f3_.symm;clear f1_ f2_ f3_;subst f4_;subst f5_));refine hK.out _ _ qz62 (fun hHeld=>?_);clear hK K;refine zW (h:=?_);refine znp (h:=?_);refine zO (i:=7) (N:=none) (bq 8 0 255 9) (h:=fun K hK=>?_);have hs17:w15.cell? ⟨gb2,0,none⟩=some (.int .i64 0):=(blk_cell BK2.out 0).trans rfl;have hfs17:=blk_frozen BK2.out 0;have hns17_0:=NB1_2.out;have hms17_0:=NB2_1.out;have hs18:w15.cell? ⟨gb2,1,none⟩=some (.slice none 0 0):=(blk_cell BK2.out 1).trans rfl;have hfs18:=blk_frozen BK2.out 1;have hns18_0:=NB1_2.out;have hms18_0:=NB2_1.out;refine skip_ (w1:=?_) (by rfl) rfl ?_ ?_;rotate_left
 ·go_simp;rfl
 refine hK.out _ _ ⟨((cell_far (p:=⟨gb2,_,none⟩) NB1_2.out _).trans (((cell_far (p:=⟨gb2,_,none⟩) NB1_2.out _).trans (hHeld.1)))),((cell_far (p:=⟨gb2,_,none⟩) NB1_2.out _).trans (((cell_far (p:=⟨gb2,_,none⟩) NB1_2.out _).trans (hHeld.2))))⟩ (fun hHeld=>?_);clear hK K;refine zrp 8 5 (h:=?_);refine done_ (done_of HT_.out qz2) ?_;(try go_wp2)
 refine bodyPost_ret (results_ct rfl _ _ gb2 26 #[.int .i64 a0_0,.slice Ao16 t3.length co16] (0,0) _ rfl (by (with_reducible repeat (first|refine blk_drewN ?_ _|refine blk_drew ?_|refine blk_alloc ?_ _));refine blk_put (cs:=#[.int .i64 a0_0,.slice none 0 0]) ?_ 1 _ rfl;(with_reducible repeat (first|refine blk_drewN ?_ _|refine blk_drew ?_|refine blk_alloc ?_ _));refine blk_put (cs:=#[.int .i64 0,.slice none 0 0]) ?_ 0 _ rfl;(with_reducible repeat (first|refine blk_drewN ?_ _|refine blk_drew ?_|refine blk_alloc ?_ _));exact BK2.out) Tryz.underlying26 rfl qz2) rfl ?_
 exact ⟨_,qz15,by (with_reducible repeat (first|apply Kd.R_alloc|apply Kd.R_drewN|apply Kd.R_drew));exact Kd.R_mono (Kd.R_far (p:=⟨gb2,1,none⟩) (Kd.R_far (p:=⟨gb2,0,none⟩) (Kd.R_types HO1.out BK2.out (by decide)) (fun _ hk=>hk.2) (.int .i64 a0_0)) (fun _ hk=>hk.2) (.slice Ao16 t3.length co16)) (fun _ hk=>trivial),qz11⟩
def laws_uHas.l0:Nat→Int→List Int→Int→Int→Option (Bool)
  | 0,_,_,_,_=>none
  | k+1,x1,x7,x8,x9=>if x9<x8 then (if 0≤x9 then (if x9<(x7.length:Int) then (if (rd x7 x9)=x1 then (some true) else (laws_uHas.l0 k x1 x7 x8 (wrap64 (x9+1)))) else (none)) else (none)) else (some false)
def laws_uHas.f (k:Nat) (l0:List Int) (a1:Int):Option (Bool):=laws_uHas.l0 k a1 l0 (l0.length:Int) 0
theorem laws_uHas.mono_l:∀k,(∀y0 y1 y2 y3,LeO (laws_uHas.l0 k y0 y1 y2 y3) (laws_uHas.l0 (k+1) y0 y1 y2 y3))
  | 0=>fun _ _ _ _ r h=>by simp [laws_uHas.l0] at h
  | k+1=>by
    have ih0:=laws_uHas.mono_l k
    · intro y0 y1 y2 y3
      unfold laws_uHas.l0
      repeat' first
   | with_reducible first|exact ih0 _ _ _ _|exact LeO.refl _|exact LeO.none _|refine LeO.ite ?_ ?_|refine LeO.bind ?_ (fun _=>?_)
theorem laws_uHas.mono:∀a0 a1 k,LeO (laws_uHas.f k a0 a1) (laws_uHas.f (k+1) a0 a1):=by
  intro a0 a1 k
  have ih0:=laws_uHas.mono_l k
  unfold laws_uHas.f
  repeat' first
   | with_reducible first|exact ih0 _ _ _ _|exact LeO.refl _|exact LeO.none _|refine LeO.ite ?_ ?_|refine LeO.bind ?_ (fun _=>?_)
set_option maxHeartbeats 8000000 in
set_option maxRecDepth 100000 in
theorem laws_uHas.calls (k:Nat) (A0:Option Addr) (c0:Nat) (l0:List Int) (a1:Int) (r:Bool) (w:World) (hr0:Kd.C (Kd.int .i64) w A0 l0.length l0) (hc0:l0.length≤c0) (h:laws_uHas.f k l0 a1=some r) :
    Calls Tryz.prog 31 #[.slice A0 l0.length c0,.int .i64 a1] w fun e w'=>e=.returned (.bool r)∧Drawn0 w w':=by
 have HR0:=Aside0.mk hr0;have HC0:=Aside0.mk hc0;clear hr0 hc0;have H:=h;unfold laws_uHas.f at H;clear h;have H':=Aside0.mk H;clear H;go_enter Tryz.func31,Tryz.ntmps31;go_wp2;go_loopg [9] k (fun kq v9 w'=>∃(x9_1:Int),v9=.int .i64 x9_1∧Aside0 (laws_uHas.l0 kq a1 l0 (l0.length:Int) x9_1=some r)∧Aside0 (kq≤k)∧Drawn0 w w')
 case atStart=>exact ⟨(0),qz23,H',⟨Nat.le_refl _⟩,qz85⟩
 case round=>
  clear H';obtain ⟨x9_1,rfl,HA,HK1,⟨m1,rfl⟩⟩:=hrel
  cases gk with
  | zero=>exact absurd HA.out (by simp [laws_uHas.l0])
  | succ k1=>
   have H:=HA.out;clear HA;simp only [laws_uHas.l0] at H;replace H:=zD' H;rcases H with ⟨c3b0,H⟩|⟨c3b0,H⟩
   ·obtain rfl:=Option.some.inj H;go_wp2;go_ret;exact ⟨qz23,qz85⟩
   replace H:=zDg' H;obtain ⟨c4b0,H⟩:=H;replace H:=zDg' H;obtain ⟨c5b0,H⟩:=H;replace H:=zS H;rcases H with ⟨c6,H⟩|⟨c6,H⟩
   ·have ⟨c6b0,c6b1⟩:=zEq c6;clear c6;obtain rfl:=Option.some.inj H;have p551:0≤(x9_1:Int):=of_decide_eq_true qz38;have q551:x9_1<(l0.length:Int):=of_decide_eq_true qz38;obtain ⟨ad551,e551,hx551_0⟩:=Kd.at_int HR0.out x9_1 p551 q551
    cases e551
    replace p551:=eq_true p551;replace q551:=eq_true q551;go_wp2;go_ret;exact ⟨qz23,qz85⟩
   have ⟨c6b0,c6b1⟩:=zNe c6;have H':=Aside0.mk H;clear H;have p551:0≤(x9_1:Int):=of_decide_eq_true qz38;have q551:x9_1<(l0.length:Int):=of_decide_eq_true qz38;obtain ⟨ad551,e551,hx551_0⟩:=Kd.at_int HR0.out x9_1 p551 q551
   cases e551
   replace p551:=eq_true p551;replace q551:=eq_true q551;go_wp2;go_roundg k1
   case measure=>have:=HK1.out;omega
   case rel=>exact ⟨(wrap64 (x9_1+1)),qz23,H',⟨qz55⟩,qz85⟩
def strings_Cut.f (a0 a1:ByteArray):Option (ByteArray×ByteArray×Bool):=if a0.size≤4000000000 then some (⟨(Lib.cut a0.data.toList a1.data.toList).1.toArray⟩,⟨(Lib.cut a0.data.toList a1.data.toList).2.1.toArray⟩,(Lib.cut a0.data.toList a1.data.toList).2.2) else none
theorem strings_Cut.calls (a0 a1:ByteArray) (r1 r2:ByteArray) (r3:Bool) (w:World) (htab:LibW.LibOk w) (h:strings_Cut.f a0 a1=some (r1,r2,r3)) :
    Calls Tryz.prog 53 #[.string a0,.string a1] w fun e w'=>e=.returned (.tuple #[.string r1,.string r2,.bool r3])∧Below w.heap.size w w':=by
 unfold strings_Cut.f at h;by_cases hc:a0.size≤4000000000;rotate_left
 ·rw [if_neg hc] at h;cases h
 rw [if_pos hc] at h;have h':=Option.some.inj h;obtain ⟨rfl,h2⟩:=Prod.mk.inj h';obtain ⟨rfl,rfl⟩:=Prod.mk.inj h2;obtain ⟨m,hm⟩:=htab.1;refine (Tryz.strings_Cut a0 a1 m w (by omega) hm).mono ?_;rintro e w' ⟨rfl,n,rfl⟩;exact ⟨rfl,pw_below_drewN (Below.refl _ _) n⟩
def strings_Split.f (a0 a1:ByteArray):Option (List ByteArray):=if a0.size≤4000000000∧1≤a1.size then some (Lib.splitB a1 0 (Lib.countB a0 a1) a0) else none
theorem strings_Split.calls (a0 a1:ByteArray) (r:List ByteArray) (w:World) (htab:LibW.LibOk w) (h:strings_Split.f a0 a1=some r) :
    Calls Tryz.prog 55 #[.string a0,.string a1] w fun e w'=>∃v0_:Value,e=.returned (v0_)∧Kd.R Kd.string 9 w' w.heap.size (fun _=>True) v0_ r∧Below w.heap.size w w':=by
 unfold strings_Split.f at h;by_cases hc:a0.size≤4000000000∧1≤a1.size;rotate_left
 ·rw [if_neg hc] at h;cases h
 rw [if_pos hc] at h;obtain rfl:=Option.some.inj h;obtain ⟨m,hm⟩:=htab.1;refine (Tryz.strings_Split a0 a1 m w (by omega) hm hc.2).mono ?_;rintro e w' ⟨rfl,rfl⟩;have hl:=Lib.splitB_all a1 hc.2 0 (Lib.countB a0 a1) a0 rfl;have hb:=Lib.countB_mul_le a1 hc.2 a0.size a0 (Nat.le_refl _);have hb2:Lib.countB a0 a1*1≤Lib.countB a0 a1*a1.size:=Nat.mul_le_mul_left _ hc.2;refine ⟨_,rfl,Kd.R_of_own ?_ (fun _ _=>trivial),below_alloc (Below.refl _ _) _⟩;refine ⟨by simp [encs],.inr ⟨w.heap.size,Lib.countB a0 a1+1,((Lib.splitB a1 0 (Lib.countB a0 a1) a0).map Value.string).toArray,by rw [hl],Nat.le_refl _,by show (w.heap.push _)[w.heap.size]? = _;exact Array.getElem?_push_size,by omega,by simp only [maxLen];omega,by simp [hl],?_⟩⟩;simp only [Nat.mul_one,encs];exact List.take_of_length_le (by simp)
theorem xe_none {x:Option Int} (h:x.isNone=true):x=none:=Option.isNone_iff_eq_none.1 h
theorem xe_some {x:Option Int} (h:x.isNone=false):∃q,x=some q:=by
  cases x with
  | none=>cases h
  | some q=>exact ⟨q,rfl⟩
def atoiP (s:ByteArray):Int×Option Int:=match Lib.atoiAll s.data.toList with
  | .ok v=>(v,none)
  | .range=>(Lib.atoiSat s.data.toList,some 0)
  | _=>(0,some 0)
def strconv_Atoi.f (a0:ByteArray):Option (Int×Option Int):=if a0.size≤4000000000 then some (atoiP a0) else none
theorem strconv_Atoi.calls (a0:ByteArray) (r1:Int) (r2:Option Int) (w:World) (htab:LibW.LibOk w) (h:strconv_Atoi.f a0=some (r1,r2)) :
    Calls Tryz.prog 75 #[.string a0] w fun e w'=>∃x:Option Int,x.isNone=r2.isNone∧e=.returned (.tuple #[.int .i64 r1,errW x])∧Below w.heap.size w w':=by
 unfold strconv_Atoi.f at h;by_cases hc:a0.size≤4000000000;rotate_left
 ·rw [if_neg hc] at h;cases h
 rw [if_pos hc] at h;have h':=Option.some.inj h;unfold atoiP at h';obtain ⟨t1,p1,hs⟩:=htab.2.2.1;obtain ⟨t2,p2,hr⟩:=htab.2.2.2
 cases ha:Lib.atoiAll a0.data.toList with
 | ok v=>
  rw [ha] at h';obtain ⟨rfl,rfl⟩:=Prod.mk.inj h';refine (Tryz.strconv_Atoi_ok a0 (by omega) v ha w).mono ?_;rintro e w' ⟨rfl,hw⟩;refine ⟨none,rfl,rfl,?_⟩;rcases hw with rfl|⟨t,rfl⟩
  ·exact Below.refl _ _
  exact bytes_below (Below.refl _ _) (Nat.le_refl _) _ _
 | range=>
  rw [ha] at h';obtain ⟨rfl,rfl⟩:=Prod.mk.inj h';refine (Tryz.strconv_Atoi_range_var a0 (by omega) ha t2 p2 w hr).mono ?_;rintro e w' ⟨n,rfl,_,_,hb⟩;exact ⟨some (n:Int),rfl,rfl,hb⟩
 | _=>
  rw [ha] at h';obtain ⟨rfl,rfl⟩:=Prod.mk.inj h';refine (Go.Proofs.Any.strconv_Atoi_syntax_var Tryz.laysC172 a0 (by omega) ha t1 p1 w hs).mono ?_;rintro e w' ⟨n,rfl,_,_,hb⟩;exact ⟨some (n:Int),rfl,rfl,hb⟩
def impl_readNumbers.l0:Nat→List Int→List ByteArray→Int→Int→Option (List Int×Bool)
  | 0,_,_,_,_=>none
  | k+1,x6,x13,x14,x15=>if x15<x14 then (if 0≤x15 then (if x15<(x13.length:Int) then ((strconv_Atoi.f (rdOf ByteArray.empty x13 x15)).bind fun bt556=>(if bt556.2.isNone=true then (if bt556.1<0 then (some (([]:List Int),false)) else ((strconv_Itoa.f bt556.1).bind fun t559=>(if t559.toList=(rdOf ByteArray.empty x13 x15).toList then (if x6.length<17592186044416 then (impl_readNumbers.l0 k (x6++[bt556.1]) x13 x14 (wrap64 (x15+1))) else (none)) else (some (([]:List Int),false))))) else (some (([]:List Int),false)))) else (none)) else (none)) else (some (x6,true))
def impl_readNumbers.f (k:Nat) (a0:ByteArray) (a1:ByteArray):Option (List Int×Bool):=(strings_Split.f a0 a1).bind fun t552=>(impl_readNumbers.l0 k ([]:List Int) t552 (t552.length:Int) 0)
theorem impl_readNumbers.mono_l:∀k,(∀y0 y1 y2 y3,LeO (impl_readNumbers.l0 k y0 y1 y2 y3) (impl_readNumbers.l0 (k+1) y0 y1 y2 y3))
  | 0=>fun _ _ _ _ r h=>by simp [impl_readNumbers.l0] at h
  | k+1=>by
    have ih0:=impl_readNumbers.mono_l k
    · intro y0 y1 y2 y3
      unfold impl_readNumbers.l0
      repeat' first
   | with_reducible first|exact ih0 _ _ _ _|exact LeO.refl _|exact LeO.none _|refine LeO.ite ?_ ?_|refine LeO.bind ?_ (fun _=>?_)
theorem impl_readNumbers.mono:∀a0 a1 k,LeO (impl_readNumbers.f k a0 a1) (impl_readNumbers.f (k+1) a0 a1):=by
  intro a0 a1 k
  have ih0:=impl_readNumbers.mono_l k
  unfold impl_readNumbers.f
  repeat' first
   | with_reducible first|exact ih0 _ _ _ _|exact LeO.refl _|exact LeO.none _|refine LeO.ite ?_ ?_|refine LeO.bind ?_ (fun _=>?_)
set_option maxHeartbeats 8000000 in
set_option maxRecDepth 100000 in
theorem impl_readNumbers.calls (k:Nat) (a0:ByteArray) (a1:ByteArray) (r1:List Int) (r2:Bool) (w:World) (htab:LibW.LibOk w) (h:impl_readNumbers.f k a0 a1=some (r1,r2)) :
    Calls Tryz.prog 54 #[.string a0,.string a1] w fun e w'=>∃v0_:Value,e=.returned (.tuple #[v0_,.bool r2])∧Kd.R (Kd.int .i64) 3 w' w.heap.size (fun _=>True) v0_ r1∧Below w.heap.size w w':=by
 have HT0:=Aside0.mk htab;clear htab;have hu90:=Tryz.underlying90;have HB:=qa (Below.refl w.heap.size w);have H:=h;unfold impl_readNumbers.f at H;clear h;replace H:=zB H;obtain ⟨t1,A3,H⟩:=H;have H':=Aside0.mk H;clear H;go_enter Tryz.func54,Tryz.ntmps54
 go_wp2_with (first|(refine zL 55 (some 13) Tryz.func55 #[.string a0,.string a1] (h:=?_);refine (strings_Split.calls a0 a1 t1 _ (LibW.tab_below HT0.out qz90) A3.out).mono ?_;rintro e _ ⟨v553,rfl,ho0,hb⟩;refine ⟨_,rfl,?_⟩;have HO1:=qa (Kd.R_lower ho0 (below_size qz4));replace HB:=zs HB hb;clear hb ho0;obtain ⟨Ao5,co5,eo5⟩:=Kd.R_slice HO1.out;subst eo5));go_loopg [6,15] k (fun kq v6 v15 w'=>∃(x6_1:List Int) (x15_1:Int),v15=.int .i64 x15_1∧Aside0 (impl_readNumbers.l0 kq x6_1 t1 (t1.length:Int) x15_1=some (r1,r2))∧Aside0 (kq≤k)∧Aside0 (Kd.R (Kd.int .i64) 3 w' w.heap.size (fun _=>True) v6 x6_1)∧Aside0 (Kd.R Kd.string 9 w' w.heap.size (fun _=>True) (.slice Ao5 t1.length co5) t1)∧Aside0 (Below w.heap.size w w'))
 case atStart=>exact ⟨(([]:List Int)),(0),qz23,H',⟨Nat.le_refl _⟩,⟨qz24⟩,⟨qz34⟩,⟨qz4⟩⟩
 case round=>
  clear H';obtain ⟨x6_1,x15_1,rfl,HA,HK1,HO_6,HO_13,HB⟩:=hrel
  cases gk with
  | zero=>exact absurd HA.out (by simp [impl_readNumbers.l0])
  | succ k1=>
   have H:=HA.out;clear HA;simp only [impl_readNumbers.l0] at H;replace H:=zD' H;rcases H with ⟨c6b0,H⟩|⟨c6b0,H⟩
   ·simp only [Option.some.injEq,Prod.mk.injEq] at H;obtain ⟨rfl,rfl⟩:=H;go_wp2;go_ret2;exact ⟨_,qz15,qz61,qz4⟩
   replace H:=zDg' H;obtain ⟨c7b0,H⟩:=H;replace H:=zDg' H;obtain ⟨c8b0,H⟩:=H;replace H:=zB H;obtain ⟨⟨t2,t3⟩,A9,H⟩:=H;(try dsimp only at H);rcases t3 with _|q558;rotate_left
   ·rw [if_neg (show ¬(some q558).isNone=true by simp)] at H;(try dsimp only at H);(try simp only [errW_none,errW_some]);simp only [Option.some.injEq,Prod.mk.injEq] at H;obtain ⟨rfl,rfl⟩:=H;have p555:0≤(x15_1:Int):=of_decide_eq_true qz38;have q555:x15_1<(t1.length:Int):=of_decide_eq_true qz38;obtain ⟨ad555,e555,hx555_0⟩:=Kd.at_string (Kd.R_reads' HO_13.out).2.2 x15_1 p555 q555
    cases e555
    replace p555:=eq_true p555;replace q555:=eq_true q555
    go_wp2_with (first|(refine zL 75 (some 21) Tryz.func75 #[.string (rdOf ByteArray.empty t1 x15_1)] (h:=?_);refine (strconv_Atoi.calls (rdOf ByteArray.empty t1 x15_1) t2 (some q558) _ (LibW.tab_below HT0.out qz90) A9.out).mono ?_;rintro e _ ⟨xe_,hxe_,rfl,hb⟩;(first|(have hxe2_:=xe_none hxe_;subst hxe2_)|(obtain ⟨qe_,hqe_⟩:=xe_some hxe_;subst hqe_));clear hxe_;(try simp only [errW_none,errW_some]);refine ⟨_,rfl,?_⟩;replace HO_6:=qa (Kd.R_below qz61 hb);replace HO_13:=qa (Kd.R_below qz91 hb);replace HB:=zs HB hb;clear hb;(try simp only [errW_none,errW_some])))
    go_ret2;exact ⟨_,qz15,qz24,qz4⟩
   rw [if_pos (show (none:Option Int).isNone=true by rfl)] at H;(try dsimp only at H);(try simp only [errW_none,errW_some]);replace H:=zD H;rcases H with ⟨c10b0,H⟩|⟨c10b0,H⟩
   ·simp only [Option.some.injEq,Prod.mk.injEq] at H;obtain ⟨rfl,rfl⟩:=H;have p555:0≤(x15_1:Int):=of_decide_eq_true qz38;have q555:x15_1<(t1.length:Int):=of_decide_eq_true qz38;obtain ⟨ad555,e555,hx555_0⟩:=Kd.at_string (Kd.R_reads' HO_13.out).2.2 x15_1 p555 q555
    cases e555
    replace p555:=eq_true p555;replace q555:=eq_true q555
    go_wp2_with (first|(refine zL 75 (some 21) Tryz.func75 #[.string (rdOf ByteArray.empty t1 x15_1)] (h:=?_);refine (strconv_Atoi.calls (rdOf ByteArray.empty t1 x15_1) t2 none _ (LibW.tab_below HT0.out qz90) A9.out).mono ?_;rintro e _ ⟨xe_,hxe_,rfl,hb⟩;(first|(have hxe2_:=xe_none hxe_;subst hxe2_)|(obtain ⟨qe_,hqe_⟩:=xe_some hxe_;subst hqe_));clear hxe_;(try simp only [errW_none,errW_some]);refine ⟨_,rfl,?_⟩;replace HO_6:=qa (Kd.R_below qz61 hb);replace HO_13:=qa (Kd.R_below qz91 hb);replace HB:=zs HB hb;clear hb;(try simp only [errW_none,errW_some])))
    go_ret2;exact ⟨_,qz15,qz24,qz4⟩
   replace H:=zB H;obtain ⟨t4,A12,H⟩:=H;replace H:=zS' H;rcases H with ⟨c13,H⟩|⟨c13,H⟩
   ·have ⟨c13b0,c13b1⟩:=zNe c13;simp only [Option.some.injEq,Prod.mk.injEq] at H;obtain ⟨rfl,rfl⟩:=H;have p555:0≤(x15_1:Int):=of_decide_eq_true qz38;have q555:x15_1<(t1.length:Int):=of_decide_eq_true qz38;obtain ⟨ad555,e555,hx555_0⟩:=Kd.at_string (Kd.R_reads' HO_13.out).2.2 x15_1 p555 q555
    cases e555
    replace p555:=eq_true p555;replace q555:=eq_true q555
    go_wp2_with (first|(refine zL 75 (some 21) Tryz.func75 #[.string (rdOf ByteArray.empty t1 x15_1)] (h:=?_);refine (strconv_Atoi.calls (rdOf ByteArray.empty t1 x15_1) t2 none _ (LibW.tab_below HT0.out qz90) A9.out).mono ?_;rintro e _ ⟨xe_,hxe_,rfl,hb⟩;(first|(have hxe2_:=xe_none hxe_;subst hxe2_)|(obtain ⟨qe_,hqe_⟩:=xe_some hxe_;subst hqe_));clear hxe_;(try simp only [errW_none,errW_some]);refine ⟨_,rfl,?_⟩;replace HO_6:=qa (Kd.R_below qz61 hb);replace HO_13:=qa (Kd.R_below qz91 hb);replace HB:=zs HB hb;clear hb;(try simp only [errW_none,errW_some]))|(go_at_call 44;(with_reducible refine (strconv_Itoa.calls t2 t4 _ ?sideT A12.out).mono ?_);(case sideT=>exact qz92);rintro e _ ⟨rfl,hb⟩;replace HO_6:=qa (Kd.R_below qz61 hb);replace HO_13:=qa (Kd.R_below qz91 hb);replace HB:=zs HB hb;clear hb))
    go_ret2;exact ⟨_,qz15,qz24,qz4⟩
   have ⟨c13b0,c13b1⟩:=zEq c13;clear c13;replace H:=zAg' H;obtain ⟨LMc14,H⟩:=H;obtain ⟨y1,hy1⟩:∃y_:List Int,y_=(x6_1++[t2]):=⟨_,rfl⟩;replace H:(impl_readNumbers.l0 k1 y1 t1 (t1.length:Int) (wrap64 (x15_1+1)))=some (r1,r2):=by first|(rw [hy1];with_reducible exact H)|(have H2_:=(Option.bind_some _ _).symm.trans H;rw [hy1];with_reducible exact H2_)|(have H2_:=(Option.bind_some _ _).symm.trans H;with_reducible exact H2_)|with_reducible exact H|(rw [hy1];exact H)|exact H
   have Ny1:=Aside0.mk hy1;clear hy1;have H':=Aside0.mk H;clear H;have p555:0≤(x15_1:Int):=of_decide_eq_true qz38;have q555:x15_1<(t1.length:Int):=of_decide_eq_true qz38;obtain ⟨ad555,e555,hx555_0⟩:=Kd.at_string (Kd.R_reads' HO_13.out).2.2 x15_1 p555 q555
   cases e555
   replace p555:=eq_true p555;replace q555:=eq_true q555
   go_wp2_with (first|(refine zL 75 (some 21) Tryz.func75 #[.string (rdOf ByteArray.empty t1 x15_1)] (h:=?_);refine (strconv_Atoi.calls (rdOf ByteArray.empty t1 x15_1) t2 none _ (LibW.tab_below HT0.out qz90) A9.out).mono ?_;rintro e _ ⟨xe_,hxe_,rfl,hb⟩;(first|(have hxe2_:=xe_none hxe_;subst hxe2_)|(obtain ⟨qe_,hqe_⟩:=xe_some hxe_;subst hqe_));clear hxe_;(try simp only [errW_none,errW_some]);refine ⟨_,rfl,?_⟩;replace HO_6:=qa (Kd.R_below qz61 hb);replace HO_13:=qa (Kd.R_below qz91 hb);replace HB:=zs HB hb;clear hb;(try simp only [errW_none,errW_some]))|(go_at_call 44;(with_reducible refine (strconv_Itoa.calls t2 t4 _ ?sideT A12.out).mono ?_);(case sideT=>exact qz92);rintro e _ ⟨rfl,hb⟩;replace HO_6:=qa (Kd.R_below qz61 hb);replace HO_13:=qa (Kd.R_below qz91 hb);replace HB:=zs HB hb;clear hb)|((with_reducible refine gate_builtin (b:=.append) (xs:=#[.tmp 36,.tmp 38]) rfl ?_);at_builtin;refine Kd.R_append (Kd.int .i64) (w0:=w) w.heap.size rfl (.tmp 36) (.tmp 38) 41 3 (.int .i64 0) 8 rfl Tryz.underlying41 info3 rfl (by decide) (by omega) u6 x6_1 t2 [.int .i64 t2] (fun _=>True) (fun _=>False) rfl rfl ?aP (fun _ hk=>hk.elim) ?aF ?aO ?aB ?aS ?aL ?_;(case aP=>exact rfl);(case aB=>exact qz71);(case aF=>exact qz67);(case aO=>exact qz68);(case aS=>exact qz73);(case aL=>have:=LMc14.out;omega);intro v561 w17 ho hb hg hat;rw [← Ny1.out] at ho;replace HO_13:=qa (Kd.R_over' qz91 (Kd.R_typed qz61) (by decide) hg);replace HB:=qa hb;have HO2:=qa ho;clear HO_6;clear ho hb hg hat))
   go_roundg k1
   case measure=>have:=HK1.out;omega
   case rel=>exact ⟨(y1),(wrap64 (x15_1+1)),qz23,H',⟨qz55⟩,⟨qz65⟩,⟨qz91⟩,⟨qz4⟩⟩
end Go.Proofs.YtdphjeiccokhnaaGreatDoor.QFnChainsGuessed
