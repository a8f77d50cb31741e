/- The functions that a law reaches, as plain Lean functions, and their walks. Written by a program of this session, turned out of the kit's print. Conditions: those that each theorem names. -/
import Derived.Test.YtdphjeiccokhnaaGreatDoorMac
import Derived.Test.YtdphjeiccokhnaaGreatDoorQFnChainsGuessedx0
import Derived.Test.YtdphjeiccokhnaaGreatDoorQFnChainsGuessedx3
namespace Go.Proofs.YtdphjeiccokhnaaGreatDoor.QFnChainsGuessed
open Go.RowKit Go.Proofs.YtdphjeiccokhnaaGreatDoorW.PrintWords Go.Proofs.YtdphjeiccokhnaaGreatDoorW.PrintLast Go.Proofs.YtdphjeiccokhnaaGreatDoorW.PrintMore Go.Proofs.YtdphjeiccokhnaaGreatDoor.Mac
attribute [local go_sem] max2_int min2_int max_two min_two max_three min_three max_four min_four
attribute [local go_sem] Go.Proofs.YtdphjeiccokhnaaGreatDoor.Kit.isSome_setCell
set_option linter.unusedVariables false
set_option linter.unusedSimpArgs false
mutual
def spec_l1Read.j0:Nat→ByteArray→Bool→Option (Int)
  | 0,_,_=>none
  | k+1,x0,x18=>if x18=true then (some (-1)) else (spec_l1Read.l0 k x0 0 0)
def spec_l1Read.l0:Nat→ByteArray→Int→Int→Option (Int)
  | 0,_,_,_=>none
  | k+1,x0,x3,x4=>if x4<(x0.size:Int) then (if 0≤x4 then (if (bt x0 x4)<48 then (some (-1)) else (if (bt x0 x4)>57 then (some (-1)) else (spec_l1Read.l0 k x0 (wrap64 ((wrap64 (10*x3))+(((bt x0 x4) - 48) % 256))) (wrap64 (x4+1))))) else (none)) else (some x3)
end
def spec_l1Read.f (k:Nat) (a0:ByteArray):Option (Int):=(spec_l1In.f (a0.size:Int) 1 6).bind fun t614=>(if t614=true then (if 0<(a0.size:Int) then (if (bt a0 0)=48 then (spec_l1Read.j0 k a0 (decide ((a0.size:Int)>1))) else (spec_l1Read.j0 k a0 false)) else (none)) else (spec_l1Read.j0 k a0 true))
theorem spec_l1Read.mono_l:∀k,(∀y0 y1,LeO (spec_l1Read.j0 k y0 y1) (spec_l1Read.j0 (k+1) y0 y1))∧(∀y0 y1 y2,LeO (spec_l1Read.l0 k y0 y1 y2) (spec_l1Read.l0 (k+1) y0 y1 y2))
  | 0=>by (refine ⟨?_,?_⟩ <;> intros);all_goals (first|unfold spec_l1Read.j0|unfold spec_l1Read.l0);all_goals exact LeO.none _
  | k+1=>by
   obtain ⟨ih0,ih1⟩:=spec_l1Read.mono_l k
   (refine ⟨?_,?_⟩ <;> intros)
   all_goals (first|unfold spec_l1Read.j0|unfold spec_l1Read.l0)
   all_goals repeat' first
    | with_reducible first|exact ih0 _ _|exact ih1 _ _ _|exact LeO.refl _|exact LeO.none _|refine LeO.ite ?_ ?_|refine LeO.bind ?_ (fun _=>?_)
theorem spec_l1Read.mono:∀a0 k,LeO (spec_l1Read.f k a0) (spec_l1Read.f (k+1) a0):=by
  intro a0 k
  obtain ⟨ih0,ih1⟩:=spec_l1Read.mono_l k
  unfold spec_l1Read.f
  repeat' first
   | with_reducible first|exact ih0 _ _|exact ih1 _ _ _|exact LeO.refl _|exact LeO.none _|refine LeO.ite ?_ ?_|refine LeO.bind ?_ (fun _=>?_)
set_option maxHeartbeats 8000000 in
set_option maxRecDepth 100000 in
theorem spec_l1Read.calls (k:Nat) (a0:ByteArray) (r:Int) (w:World) (h:spec_l1Read.f k a0=some r) :
    Calls Tryz.prog 81 #[.string a0] w fun e w'=>e=.returned (.int .i64 r)∧Drawn0 w w':=by
 have H:=h;unfold spec_l1Read.f at H;clear h;have HC2:=Aside0.mk H;clear H;go_enter Tryz.func81,Tryz.ntmps81;go_upto_region 1 with (fail);go_cut [18] (fun v18 wc=>∃(kq:Nat) (x18_1:Bool),v18=.bool x18_1∧Aside0 (spec_l1Read.j0 kq a0 x18_1=some r)∧Aside0 (kq≤k)∧Drawn0 w wc)
 case first=>
  have H:=HC2.out;clear HC2;replace H:=zB H;obtain ⟨t1,A3,H⟩:=H;replace H:=zI' H;rcases H with ⟨rfl,H⟩|⟨rfl,H⟩
  ·(try dsimp only at H);have H':=Aside0.mk H;clear H;go_wp2_with (first|(refine zL 84 (some 7) Tryz.func84 #[.int .i64 (a0.size:Int),.int .i64 1,.int .i64 6] (h:=?_);refine (spec_l1In.calls (a0.size:Int) 1 6 false _ A3.out).mono ?_;rintro e w' ⟨rfl,⟨nd,rfl⟩⟩;refine ⟨_,rfl,?_⟩));go_meet
   case rel=>exact ⟨_,(true),qz23,H',⟨qz35⟩,qz85⟩
  (try dsimp only at H);replace H:=zSg' H;obtain ⟨c5,H⟩:=H;have c5b0:=decide_eq_true c5;have c5b1:decide (0<a0.size)=true:=decide_eq_true (by omega);clear c5;(first|rw [c5b0]|(simp only [i64_w,i32_w];rw [c5b0])|skip);replace H:=zS' H;rcases H with ⟨c7,H⟩|⟨c7,H⟩
  ·have ⟨c7b0,c7b1⟩:=zNe c7;have H':=Aside0.mk H;clear H
   go_wp2_with (first|(refine zL 84 (some 7) Tryz.func84 #[.int .i64 (a0.size:Int),.int .i64 1,.int .i64 6] (h:=?_);refine (spec_l1In.calls (a0.size:Int) 1 6 true _ A3.out).mono ?_;rintro e w' ⟨rfl,⟨nd,rfl⟩⟩;refine ⟨_,rfl,?_⟩;have p6:0≤(0:Int):=(by omega);have q6:0<a0.size:=(by have:(0:Int)<(a0.size:Int):=of_decide_eq_true qz38;omega);have hx6:∀h:0<a0.size,((a0[0]'h).toNat:Int)=bt a0 0:=bt_at a0 0;clear p6;have qi6:(0<(a0.size:Int))=True:=eq_true (of_decide_eq_true qz38);replace q6:=eq_true q6));go_meet
   case rel=>exact ⟨_,(false),qz23,H',⟨qz35⟩,qz85⟩
  have ⟨c7b0,c7b1⟩:=zEq c7;clear c7;have H':=Aside0.mk H;clear H
  go_wp2_with (first|(refine zL 84 (some 7) Tryz.func84 #[.int .i64 (a0.size:Int),.int .i64 1,.int .i64 6] (h:=?_);refine (spec_l1In.calls (a0.size:Int) 1 6 true _ A3.out).mono ?_;rintro e w' ⟨rfl,⟨nd,rfl⟩⟩;refine ⟨_,rfl,?_⟩;have p6:0≤(0:Int):=(by omega);have q6:0<a0.size:=(by have:(0:Int)<(a0.size:Int):=of_decide_eq_true qz38;omega);have hx6:∀h:0<a0.size,((a0[0]'h).toNat:Int)=bt a0 0:=bt_at a0 0;clear p6;have qi6:(0<(a0.size:Int))=True:=eq_true (of_decide_eq_true qz38);replace q6:=eq_true q6));go_meet
  case rel=>exact ⟨_,(decide ((a0.size:Int)>1)),qz23,H',⟨qz35⟩,qz85⟩
 case rest=>
  clear HC2;obtain ⟨kq,x18_1,rfl,HA,HJ1,⟨mc1,rfl⟩⟩:=hcut
  cases kq with
  | zero=>exact absurd HA.out (by simp [spec_l1Read.j0])
  | succ kj1=>
   have H:=HA.out;clear HA;simp only [spec_l1Read.j0] at H;replace H:=zI H;rcases H with ⟨rfl,H⟩|⟨rfl,H⟩
   ·(try dsimp only at H);obtain rfl:=Option.some.inj H;go_wp2;go_ret;exact ⟨qz23,qz85⟩
   (try dsimp only at H);have H':=Aside0.mk H;clear H;go_wp2;go_loopg [3,4] kj1 (fun kq v3 v4 w'=>∃(x3_2:Int) (x4_2:Int),v3=.int .i64 x3_2∧v4=.int .i64 x4_2∧Aside0 (spec_l1Read.l0 kq a0 x3_2 x4_2=some r)∧Aside0 (kq≤kj1)∧Drawn0 w w')
   case atStart=>exact ⟨(0),(0),qz23,qz23,H',⟨Nat.le_refl _⟩,qz85⟩
   case round=>
    clear H';obtain ⟨x3_2,x4_2,rfl,rfl,HA,HK2,⟨m2,rfl⟩⟩:=hrel
    cases gk with
    | zero=>exact absurd HA.out (by simp [spec_l1Read.l0])
    | succ k2=>
     have H:=HA.out;clear HA;simp only [spec_l1Read.l0] at H;replace H:=zD' H;rcases H with ⟨c9b0,H⟩|⟨c9b0,H⟩
     ·obtain rfl:=Option.some.inj H;go_wp2;go_ret;exact ⟨qz23,qz85⟩
     replace H:=zDg' H;obtain ⟨c10b0,H⟩:=H;replace H:=zD H;rcases H with ⟨c12b0,H⟩|⟨c12b0,H⟩
     ·obtain rfl:=Option.some.inj H;have p11:0≤(x4_2:Int):=of_decide_eq_true qz38;have q11:x4_2<(a0.size:Int):=of_decide_eq_true qz38;have hx11:=bt_at a0 x4_2;replace p11:=eq_true p11;replace q11:=eq_true q11;go_wp2;go_ret;exact ⟨qz23,qz85⟩
     replace H:=zD H;rcases H with ⟨c14b0,H⟩|⟨c14b0,H⟩
     ·obtain rfl:=Option.some.inj H;have p11:0≤(x4_2:Int):=of_decide_eq_true qz38;have q11:x4_2<(a0.size:Int):=of_decide_eq_true qz38;have hx11:=bt_at a0 x4_2;replace p11:=eq_true p11;replace q11:=eq_true q11;have p13:0≤(x4_2:Int):=of_decide_eq_true qz38;have q13:x4_2<(a0.size:Int):=of_decide_eq_true qz38;have hx13:=bt_at a0 x4_2;replace p13:=eq_true p13;replace q13:=eq_true q13;go_wp2;go_ret;exact ⟨qz23,qz85⟩
     have H':=Aside0.mk H;clear H;have p11:0≤(x4_2:Int):=of_decide_eq_true qz38;have q11:x4_2<(a0.size:Int):=of_decide_eq_true qz38;have hx11:=bt_at a0 x4_2;replace p11:=eq_true p11;replace q11:=eq_true q11;have p13:0≤(x4_2:Int):=of_decide_eq_true qz38;have q13:x4_2<(a0.size:Int):=of_decide_eq_true qz38;have hx13:=bt_at a0 x4_2;replace p13:=eq_true p13;replace q13:=eq_true q13;have p15:0≤(x4_2:Int):=of_decide_eq_true qz38;have q15:x4_2<(a0.size:Int):=of_decide_eq_true qz38;have hx15:=bt_at a0 x4_2;replace p15:=eq_true p15;replace q15:=eq_true q15;go_wp2;go_roundg k2
     case measure=>have:=HJ1.out;have:=HK2.out;omega
     case rel=>exact ⟨(wrap64 ((wrap64 (10*x3_2))+(((bt a0 x4_2) - 48) % 256))),(wrap64 (x4_2+1)),qz23,qz23,H',⟨qz43⟩,qz85⟩
end Go.Proofs.YtdphjeiccokhnaaGreatDoor.QFnChainsGuessed
