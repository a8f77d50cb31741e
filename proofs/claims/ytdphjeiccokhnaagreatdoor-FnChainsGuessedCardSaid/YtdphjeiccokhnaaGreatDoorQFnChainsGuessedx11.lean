/- The functions that a law reaches, as plain Lean functions, and their walks. Written by a program of this session, turned out of the kit's print. Conditions: those that each theorem names. -/
import Derived.Test.YtdphjeiccokhnaaGreatDoorMac
import Derived.Test.YtdphjeiccokhnaaGreatDoorQFnChainsGuessedx0
import Derived.Test.YtdphjeiccokhnaaGreatDoorQFnChainsGuessedx3
import Derived.Test.YtdphjeiccokhnaaGreatDoorQFnChainsGuessedx10
namespace Go.Proofs.YtdphjeiccokhnaaGreatDoor.QFnChainsGuessed
open Go.RowKit Go.Proofs.YtdphjeiccokhnaaGreatDoorW.PrintWords Go.Proofs.YtdphjeiccokhnaaGreatDoorW.PrintLast Go.Proofs.YtdphjeiccokhnaaGreatDoorW.PrintMore Go.Proofs.YtdphjeiccokhnaaGreatDoor.Mac
attribute [local go_sem] max2_int min2_int max_two min_two max_three min_three max_four min_four
attribute [local go_sem] Go.Proofs.YtdphjeiccokhnaaGreatDoor.Kit.isSome_setCell
set_option linter.unusedVariables false
set_option linter.unusedSimpArgs false
mutual
def spec_pzGood.j0:Nat→Bool→Int→List (S51)→Option (Bool)
  | 0,_,_,_=>none
  | k+1,x14,x318000,x318001=>if x14=true then (some false) else (spec_pzGood.l0 k x318001 (x318001.length:Int) 0)
def spec_pzGood.l0:Nat→List (S51)→Int→Int→Option (Bool)
  | 0,_,_,_=>none
  | k+1,x16,x17,x18=>if x18<x17 then (if 0≤x18 then (if x18<(x16.length:Int) then ((spec_pzClue.f k ((rd_T51 x16 x18).f0) ((rd_T51 x16 x18).f1) ((rd_T51 x16 x18).f2)).bind fun t321=>(if t321=true then (spec_pzGood.l0 k x16 x17 (wrap64 (x18+1))) else (some false))) else (none)) else (none)) else (some true)
end
def spec_pzGood.f (k:Nat) (a0_0:Int) (l0_1:List (S51)):Option (Bool):=(spec_pzOf.f a0_0).bind fun t318=>(if t318=true then (spec_pzGood.j0 k (decide ((l0_1.length:Int)>6)) a0_0 l0_1) else (spec_pzGood.j0 k true a0_0 l0_1))
theorem spec_pzGood.mono_l:∀k,(∀y0 y1 y2,LeO (spec_pzGood.j0 k y0 y1 y2) (spec_pzGood.j0 (k+1) y0 y1 y2))∧(∀y0 y1 y2,LeO (spec_pzGood.l0 k y0 y1 y2) (spec_pzGood.l0 (k+1) y0 y1 y2))
  | 0=>by (refine ⟨?_,?_⟩ <;> intros);all_goals (first|unfold spec_pzGood.j0|unfold spec_pzGood.l0);all_goals exact LeO.none _
  | k+1=>by
   obtain ⟨ih0,ih1⟩:=spec_pzGood.mono_l k
   (refine ⟨?_,?_⟩ <;> intros)
   all_goals (first|unfold spec_pzGood.j0|unfold spec_pzGood.l0)
   all_goals repeat' first
    | with_reducible first|exact ih0 _ _ _|exact ih1 _ _ _|exact spec_pzClue.mono _ _ _ _|exact LeO.refl _|exact LeO.none _|refine LeO.ite ?_ ?_|refine LeO.bind ?_ (fun _=>?_)
theorem spec_pzGood.mono:∀a0 a1 k,LeO (spec_pzGood.f k a0 a1) (spec_pzGood.f (k+1) a0 a1):=by
  intro a0 a1 k
  obtain ⟨ih0,ih1⟩:=spec_pzGood.mono_l k
  unfold spec_pzGood.f
  repeat' first
   | with_reducible first|exact ih0 _ _ _|exact ih1 _ _ _|exact spec_pzClue.mono _ _ _ _|exact LeO.refl _|exact LeO.none _|refine LeO.ite ?_ ?_|refine LeO.bind ?_ (fun _=>?_)
set_option maxHeartbeats 8000000 in
set_option maxRecDepth 100000 in
theorem spec_pzGood.calls (k:Nat) (a0_0:Int) (A0_1:Option Addr) (c0_1:Nat) (l0_1:List (S51)) (r:Bool) (w:World) (hr0_1:Kd.C k51 w A0_1 l0_1.length l0_1) (hc0_1:l0_1.length≤c0_1) (h:spec_pzGood.f k a0_0 l0_1=some r) :
    Calls Tryz.prog 38 #[.agg #[.int .i64 a0_0,.slice A0_1 l0_1.length c0_1]] w fun e w'=>e=.returned (.bool r)∧Below w.heap.size w w':=by
 have hu26:=Tryz.underlying26;have hu51:=Tryz.underlying51;have HR0_1:=Aside0.mk hr0_1;have HC0_1:=Aside0.mk hc0_1;clear hr0_1 hc0_1;have HB:=qa (Below.refl w.heap.size w);have H:=h;unfold spec_pzGood.f at H;clear h;have HC2:=Aside0.mk H;clear H;go_enter Tryz.func38,Tryz.ntmps38
 go_upto_region 1 with (first|((with_reducible refine gate_dst (N:=1) rfl ?_);(try (refine gate_guard (by rfl) ?_;dsimp only));refine box_event ?hg (N:=1) ?hd (cs:=#[.int .i64 a0_0,.slice A0_1 l0_1.length c0_1]) (t:=26) ?hr ?_;(case hd=>rfl);(case hg=>rfl);(case hr=>exact qz37);intro gb1 hg _ hbox hb;have BK1:=qa hbox;have GE1:=qa (qz3:w.heap.size≤gb1);replace HB:=zs HB hb;clear hb hbox hg));(try simp only [Act.put,List.setIfInBounds_toArray,List.set_cons_zero,List.set_cons_succ]);go_cut [14] (fun v14 wc=>∃(kq:Nat) (x14_1:Bool),v14=.bool x14_1∧Aside0 (spec_pzGood.j0 kq x14_1 a0_0 l0_1=some r)∧Aside0 (kq≤k)∧Aside0 (wc.heap[gb1]? = some (.cells #[.int .i64 a0_0,(.slice A0_1 l0_1.length c0_1)] 26 (0,0)))∧Aside0 (Below w.heap.size w wc))
 case first=>
  have H:=HC2.out;clear HC2;replace H:=zB H;obtain ⟨t1,A4,H⟩:=H;replace H:=zI H;rcases H with ⟨rfl,H⟩|⟨rfl,H⟩
  ·(try dsimp only at H);have H':=Aside0.mk H;clear H;have ⟨_,_,_,_⟩:=zC2 BK1.out;go_wp2_with (first|(refine zL 62 (some 7) Tryz.func62 #[.int .i64 a0_0] (h:=?_);refine (spec_pzOf.calls a0_0 true _ A4.out).mono ?_;rintro e w' ⟨rfl,⟨nd,rfl⟩⟩;refine ⟨_,rfl,?_⟩));go_meet
   case rel=>exact ⟨_,(decide ((l0_1.length:Int)>6)),qz23,H',⟨qz35⟩,⟨qz8⟩,⟨qz6⟩⟩
  (try dsimp only at H);have H':=Aside0.mk H;clear H;have ⟨_,_,_,_⟩:=zC2 BK1.out;go_wp2_with (first|(refine zL 62 (some 7) Tryz.func62 #[.int .i64 a0_0] (h:=?_);refine (spec_pzOf.calls a0_0 false _ A4.out).mono ?_;rintro e w' ⟨rfl,⟨nd,rfl⟩⟩;refine ⟨_,rfl,?_⟩));go_meet
  case rel=>exact ⟨_,(true),qz23,H',⟨qz35⟩,⟨qz8⟩,⟨qz6⟩⟩
 case rest=>
  clear HC2;obtain ⟨kq,x14_1,rfl,HA,HJ1,BK1,HB⟩:=hcut
  cases kq with
  | zero=>exact absurd HA.out (by simp [spec_pzGood.j0])
  | succ kj1=>
   have H:=HA.out;clear HA;simp only [spec_pzGood.j0] at H;replace H:=zI H;rcases H with ⟨rfl,H⟩|⟨rfl,H⟩
   ·(try dsimp only at H);obtain rfl:=Option.some.inj H;go_wp2;go_ret;exact ⟨qz15,qz6⟩
   (try dsimp only at H);have H':=Aside0.mk H;clear H;have ⟨_,_,_,_⟩:=zC2 BK1.out;go_wp2;go_loopg [18] kj1 (fun kq v18 w'=>∃(x18_2:Int),v18=.int .i64 x18_2∧Aside0 (spec_pzGood.l0 kq l0_1 (l0_1.length:Int) x18_2=some r)∧Aside0 (kq≤kj1)∧Aside0 (w'.heap[gb1]? = some (.cells #[.int .i64 a0_0,(.slice A0_1 l0_1.length c0_1)] 26 (0,0)))∧Aside0 (Below w.heap.size w w'))
   case atStart=>exact ⟨(0),qz23,H',⟨Nat.le_refl _⟩,⟨qz8⟩,⟨qz6⟩⟩
   case round=>
    clear H';obtain ⟨x18_2,rfl,HA,HK2,BK1,HB⟩:=hrel
    cases gk with
    | zero=>exact absurd HA.out (by simp [spec_pzGood.l0])
    | succ k2=>
     have H:=HA.out;clear HA;simp only [spec_pzGood.l0] at H;replace H:=zD' H;rcases H with ⟨c10b0,H⟩|⟨c10b0,H⟩
     ·obtain rfl:=Option.some.inj H;go_wp2;go_ret;exact ⟨qz15,qz6⟩
     replace H:=zDg' H;obtain ⟨c11b0,H⟩:=H;replace H:=zDg' H;obtain ⟨c12b0,H⟩:=H;replace H:=zB H;obtain ⟨t2,A13,H⟩:=H;replace H:=zI' H;rcases H with ⟨rfl,H⟩|⟨rfl,H⟩
     ·(try dsimp only at H);obtain rfl:=Option.some.inj H;have p319:0≤(x18_2:Int):=of_decide_eq_true qz38;have q319:x18_2<(l0_1.length:Int):=of_decide_eq_true qz38;obtain ⟨ad319,e319,hx319_0,hx319_1,hx319_2⟩:=at_T51 HR0_1.out x18_2 p319 q319
      cases e319
      replace hx319_0:=(HB.out.cell (World.block_lt_of_cell? w _ hx319_0)).trans hx319_0;replace hx319_1:=(HB.out.cell (World.block_lt_of_cell? w _ hx319_1)).trans hx319_1;replace hx319_2:=(HB.out.cell (World.block_lt_of_cell? w _ hx319_2)).trans hx319_2;replace p319:=eq_true p319;replace q319:=eq_true q319
      go_wp2_with (first|((with_reducible refine gate_dst (N:=4) rfl ?_);(try (refine gate_guard (by rfl) ?_;dsimp only));refine box_event ?hg (N:=4) ?hd (cs:=#[.int .i64 0,.int .i64 0,.int .i64 0]) (t:=51) ?hr ?_;(case hd=>rfl);(case hg=>rfl);(case hr=>exact qz37);intro gb2 hg _ hbox hb;have BK2:=qa hbox;have GE2:=qa (qz5:w.heap.size≤gb2);replace HB:=qa (below_step qz6 hb);have NB1_2:=qa (qz39:gb1≠gb2);have NB2_1:=qa (qz40:gb2≠gb1);replace BK1:=zBb BK1 hb;clear hb hbox hg;have hnb20:=NB2_1.out;have hnc20:=NB1_2.out;have ⟨_,_,_,_,_,_⟩:=zC3 BK2.out)|(refine zL 63 (some 23) Tryz.func63 #[.agg #[.int .i64 ((rd_T51 l0_1 x18_2).f0),.int .i64 ((rd_T51 l0_1 x18_2).f1),.int .i64 ((rd_T51 l0_1 x18_2).f2)]] (h:=?_);refine (spec_pzClue.calls k2 ((rd_T51 l0_1 x18_2).f0) ((rd_T51 l0_1 x18_2).f1) ((rd_T51 l0_1 x18_2).f2) false _ A13.out).mono ?_;rintro e _ ⟨rfl,hb⟩;refine ⟨_,rfl,?_⟩;replace BK1:=qa (blk_below (g:=gb1) (o:=.cells #[.int .i64 a0_0,.slice (some ad319) l0_1.length c0_1] 26 (0,0)) qz41 hb);replace BK2:=qa (blk_below (g:=gb2) (o:=.cells #[.int .i64 ((rd_T51 l0_1 x18_2).f0),.int .i64 ((rd_T51 l0_1 x18_2).f1),.int .i64 ((rd_T51 l0_1 x18_2).f2)] 51 (0,0)) qz42 hb);replace HB:=qa (below_step qz11 hb);clear hb))
      go_ret;exact ⟨qz15,qz11⟩
     (try dsimp only at H);have H':=Aside0.mk H;clear H;have p319:0≤(x18_2:Int):=of_decide_eq_true qz38;have q319:x18_2<(l0_1.length:Int):=of_decide_eq_true qz38;obtain ⟨ad319,e319,hx319_0,hx319_1,hx319_2⟩:=at_T51 HR0_1.out x18_2 p319 q319
     cases e319
     replace hx319_0:=(HB.out.cell (World.block_lt_of_cell? w _ hx319_0)).trans hx319_0;replace hx319_1:=(HB.out.cell (World.block_lt_of_cell? w _ hx319_1)).trans hx319_1;replace hx319_2:=(HB.out.cell (World.block_lt_of_cell? w _ hx319_2)).trans hx319_2;replace p319:=eq_true p319;replace q319:=eq_true q319
     go_wp2_with (first|((with_reducible refine gate_dst (N:=4) rfl ?_);(try (refine gate_guard (by rfl) ?_;dsimp only));refine box_event ?hg (N:=4) ?hd (cs:=#[.int .i64 0,.int .i64 0,.int .i64 0]) (t:=51) ?hr ?_;(case hd=>rfl);(case hg=>rfl);(case hr=>exact qz37);intro gb2 hg _ hbox hb;have BK2:=qa hbox;have GE2:=qa (qz5:w.heap.size≤gb2);replace HB:=qa (below_step qz6 hb);have NB1_2:=qa (qz39:gb1≠gb2);have NB2_1:=qa (qz40:gb2≠gb1);replace BK1:=zBb BK1 hb;clear hb hbox hg;have hnb16:=NB2_1.out;have hnc16:=NB1_2.out;have ⟨_,_,_,_,_,_⟩:=zC3 BK2.out)|(refine zL 63 (some 23) Tryz.func63 #[.agg #[.int .i64 ((rd_T51 l0_1 x18_2).f0),.int .i64 ((rd_T51 l0_1 x18_2).f1),.int .i64 ((rd_T51 l0_1 x18_2).f2)]] (h:=?_);refine (spec_pzClue.calls k2 ((rd_T51 l0_1 x18_2).f0) ((rd_T51 l0_1 x18_2).f1) ((rd_T51 l0_1 x18_2).f2) true _ A13.out).mono ?_;rintro e _ ⟨rfl,hb⟩;refine ⟨_,rfl,?_⟩;replace BK1:=qa (blk_below (g:=gb1) (o:=.cells #[.int .i64 a0_0,.slice (some ad319) l0_1.length c0_1] 26 (0,0)) qz41 hb);replace BK2:=qa (blk_below (g:=gb2) (o:=.cells #[.int .i64 ((rd_T51 l0_1 x18_2).f0),.int .i64 ((rd_T51 l0_1 x18_2).f1),.int .i64 ((rd_T51 l0_1 x18_2).f2)] 51 (0,0)) qz42 hb);replace HB:=qa (below_step qz11 hb);clear hb))
     go_roundg k2
     case measure=>have:=HJ1.out;have:=HK2.out;omega
     case rel=>exact ⟨(wrap64 (x18_2+1)),qz23,H',⟨qz43⟩,⟨qz8⟩,⟨qz11⟩⟩
def spec_pzFits.f (k:Nat) (a0_0:Int) (a0_1:Int) (a0_2:Int) (a1_0:Int) (a1_1:Int) (a1_2:Int):Option (Bool):=(spec_pzValue.f k a0_0 a1_0 a1_1 a1_2).bind fun bt324=>(if bt324.2.2=true then (if bt324.1=a0_1 then (some (bt324.2.1==a0_2)) else (some false)) else (some false))
theorem spec_pzFits.mono:∀a0 a1 a2 a3 a4 a5 k,LeO (spec_pzFits.f k a0 a1 a2 a3 a4 a5) (spec_pzFits.f (k+1) a0 a1 a2 a3 a4 a5):=by
  intro a0 a1 a2 a3 a4 a5 k
  unfold spec_pzFits.f
  repeat' first
   | with_reducible first|exact spec_pzValue.mono _ _ _ _ _|exact LeO.refl _|exact LeO.none _|refine LeO.ite ?_ ?_|refine LeO.bind ?_ (fun _=>?_)
set_option maxHeartbeats 8000000 in
set_option maxRecDepth 100000 in
theorem spec_pzFits.calls (k:Nat) (a0_0:Int) (a0_1:Int) (a0_2:Int) (a1_0:Int) (a1_1:Int) (a1_2:Int) (r:Bool) (w:World) (h:spec_pzFits.f k a0_0 a0_1 a0_2 a1_0 a1_1 a1_2=some r) :
    Calls Tryz.prog 64 #[.agg #[.int .i64 a0_0,.int .i64 a0_1,.int .i64 a0_2],.agg #[.int .i64 a1_0,.int .i64 a1_1,.int .i64 a1_2]] w fun e w'=>e=.returned (.bool r)∧Below w.heap.size w w':=by
 have hu51:=Tryz.underlying51;have hu34:=Tryz.underlying34;have HB:=qa (Below.refl w.heap.size w);have H:=h;unfold spec_pzFits.f at H;clear h;replace H:=zB H;obtain ⟨⟨t1,t2,t3⟩,A3,H⟩:=H;(try dsimp only at H);replace H:=zI' H;rcases H with ⟨rfl,H⟩|⟨rfl,H⟩
 ·(try dsimp only at H);obtain rfl:=Option.some.inj H;go_enter Tryz.func64,Tryz.ntmps64
  go_wp2_with (first|(refine zX (N:=2) (cs:=#[.int .i64 a0_0,.int .i64 a0_1,.int .i64 a0_2]) (t:=51) (h:=?_);intro gb1 hg _ hbox hb;have BK1:=qa hbox;have GE1:=qa (qz3:w.heap.size≤gb1);replace HB:=zs HB hb;clear hb hbox hg)|(refine zX (N:=3) (cs:=#[.int .i64 a1_0,.int .i64 a1_1,.int .i64 a1_2]) (t:=34) (h:=?_);intro gb2 hg _ hbox hb;have BK2:=qa hbox;have GE2:=qa (qz5:w.heap.size≤gb2);replace HB:=qa (below_step qz6 hb);have NB1_2:=qa (qz44:gb1≠gb2);have NB2_1:=qa (qz45:gb2≠gb1);replace BK1:=zBb BK1 hb;clear hb hbox hg;have hnb22:=NB1_2.out;have hnc22:=NB2_1.out;have ⟨_,_,_,_,_,_⟩:=zC3 BK1.out;have ⟨_,_,_,_,_,_⟩:=zC3 BK2.out)|(refine zL 85 (some 12) Tryz.func85 #[.int .i64 a0_0,.agg #[.int .i64 a1_0,.int .i64 a1_1,.int .i64 a1_2]] (h:=?_);refine (spec_pzValue.calls k a0_0 a1_0 a1_1 a1_2 t1 t2 false _ A3.out).mono ?_;rintro e _ ⟨rfl,hb⟩;refine ⟨_,rfl,?_⟩;replace BK1:=zBb BK1 hb;replace BK2:=zBb BK2 hb;replace HB:=qa (below_step qz11 hb);clear hb))
  go_ret;exact ⟨qz15,qz11⟩
 (try dsimp only at H);replace H:=zS H;rcases H with ⟨c5,H⟩|⟨c5,H⟩
 ·have ⟨c5b0,c5b1⟩:=zEq c5;clear c5;obtain rfl:=Option.some.inj H;go_enter Tryz.func64,Tryz.ntmps64
  go_wp2_with (first|(refine zX (N:=2) (cs:=#[.int .i64 a0_0,.int .i64 a0_1,.int .i64 a0_2]) (t:=51) (h:=?_);intro gb1 hg _ hbox hb;have BK1:=qa hbox;have GE1:=qa (qz3:w.heap.size≤gb1);replace HB:=zs HB hb;clear hb hbox hg)|(refine zX (N:=3) (cs:=#[.int .i64 a1_0,.int .i64 a1_1,.int .i64 a1_2]) (t:=34) (h:=?_);intro gb2 hg _ hbox hb;have BK2:=qa hbox;have GE2:=qa (qz5:w.heap.size≤gb2);replace HB:=qa (below_step qz6 hb);have NB1_2:=qa (qz44:gb1≠gb2);have NB2_1:=qa (qz45:gb2≠gb1);replace BK1:=zBb BK1 hb;clear hb hbox hg;have hnb8:=NB1_2.out;have hnc8:=NB2_1.out;have ⟨_,_,_,_,_,_⟩:=zC3 BK1.out;have ⟨_,_,_,_,_,_⟩:=zC3 BK2.out)|(refine zL 85 (some 12) Tryz.func85 #[.int .i64 a0_0,.agg #[.int .i64 a1_0,.int .i64 a1_1,.int .i64 a1_2]] (h:=?_);refine (spec_pzValue.calls k a0_0 a1_0 a1_1 a1_2 t1 t2 true _ A3.out).mono ?_;rintro e _ ⟨rfl,hb⟩;refine ⟨_,rfl,?_⟩;replace BK1:=zBb BK1 hb;replace BK2:=zBb BK2 hb;replace HB:=qa (below_step qz11 hb);clear hb;have ⟨_,_,_,_,_,_⟩:=zC3 BK1.out))
  go_ret;exact ⟨qz15,qz11⟩
 have ⟨c5b0,c5b1⟩:=zNe c5;obtain rfl:=Option.some.inj H;go_enter Tryz.func64,Tryz.ntmps64
 go_wp2_with (first|(refine zX (N:=2) (cs:=#[.int .i64 a0_0,.int .i64 a0_1,.int .i64 a0_2]) (t:=51) (h:=?_);intro gb1 hg _ hbox hb;have BK1:=qa hbox;have GE1:=qa (qz3:w.heap.size≤gb1);replace HB:=zs HB hb;clear hb hbox hg)|(refine zX (N:=3) (cs:=#[.int .i64 a1_0,.int .i64 a1_1,.int .i64 a1_2]) (t:=34) (h:=?_);intro gb2 hg _ hbox hb;have BK2:=qa hbox;have GE2:=qa (qz5:w.heap.size≤gb2);replace HB:=qa (below_step qz6 hb);have NB1_2:=qa (qz44:gb1≠gb2);have NB2_1:=qa (qz45:gb2≠gb1);replace BK1:=zBb BK1 hb;clear hb hbox hg;have hnb15:=NB1_2.out;have hnc15:=NB2_1.out;have ⟨_,_,_,_,_,_⟩:=zC3 BK1.out;have ⟨_,_,_,_,_,_⟩:=zC3 BK2.out)|(refine zL 85 (some 12) Tryz.func85 #[.int .i64 a0_0,.agg #[.int .i64 a1_0,.int .i64 a1_1,.int .i64 a1_2]] (h:=?_);refine (spec_pzValue.calls k a0_0 a1_0 a1_1 a1_2 t1 t2 true _ A3.out).mono ?_;rintro e _ ⟨rfl,hb⟩;refine ⟨_,rfl,?_⟩;replace BK1:=zBb BK1 hb;replace BK2:=zBb BK2 hb;replace HB:=qa (below_step qz11 hb);clear hb;have ⟨_,_,_,_,_,_⟩:=zC3 BK1.out))
 go_ret;exact ⟨qz15,qz11⟩
mutual
def spec_pzAll.l0:Nat→Int→List (S51)→List (S34)→Int→Option ((List (S34)))
  | 0,_,_,_,_=>none
  | k+1,x0,x1,x5,x6=>if x6≤x0 then (spec_pzAll.l1 k x0 x1 x5 x6 0) else (some x5)
def spec_pzAll.l1:Nat→Int→List (S51)→List (S34)→Int→Int→Option ((List (S34)))
  | 0,_,_,_,_,_=>none
  | k+1,x0,x1,x5,x6,x7=>if x7≤x0 then (spec_pzAll.l2 k x0 x1 x5 x6 x7 true x1 (x1.length:Int) 0 x6 x7 x0) else (spec_pzAll.l0 k x0 x1 x5 (wrap64 (x6+1)))
def spec_pzAll.l2:Nat→Int→List (S51)→List (S34)→Int→Int→Bool→List (S51)→Int→Int→Int→Int→Int→Option ((List (S34)))
  | 0,_,_,_,_,_,_,_,_,_,_,_,_=>none
  | k+1,x0,x1,x5,x6,x7,x9,x26,x27,x28,x328000,x328001,x328002=>if x28<x27 then (if 0≤x28 then (if x28<(x26.length:Int) then (if x9=true then ((spec_pzFits.f k ((rd_T51 x26 x28).f0) ((rd_T51 x26 x28).f1) ((rd_T51 x26 x28).f2) x328000 x328001 x328002).bind fun t330=>(spec_pzAll.l2 k x0 x1 x5 x6 x7 t330 x26 x27 (wrap64 (x28+1)) x328000 x328001 x328002)) else (spec_pzAll.l2 k x0 x1 x5 x6 x7 false x26 x27 (wrap64 (x28+1)) x328000 x328001 x328002)) else (none)) else (none)) else (if x9=true then (if x5.length<5864062014805 then (spec_pzAll.l1 k x0 x1 (x5++[(⟨x328000,x328001,x328002⟩:S34)]) x6 (wrap64 (x7+1))) else (none)) else (spec_pzAll.l1 k x0 x1 x5 x6 (wrap64 (x7+1))))
end
def spec_pzAll.f (k:Nat) (a0:Int) (l1:List (S51)):Option ((List (S34))):=spec_pzAll.l0 k a0 l1 ([]:List (S34)) 0
theorem spec_pzAll.mono_l:∀k,(∀y0 y1 y2 y3,LeO (spec_pzAll.l0 k y0 y1 y2 y3) (spec_pzAll.l0 (k+1) y0 y1 y2 y3))∧(∀y0 y1 y2 y3 y4,LeO (spec_pzAll.l1 k y0 y1 y2 y3 y4) (spec_pzAll.l1 (k+1) y0 y1 y2 y3 y4))∧(∀y0 y1 y2 y3 y4 y5 y6 y7 y8 y9 y10 y11,LeO (spec_pzAll.l2 k y0 y1 y2 y3 y4 y5 y6 y7 y8 y9 y10 y11) (spec_pzAll.l2 (k+1) y0 y1 y2 y3 y4 y5 y6 y7 y8 y9 y10 y11))
  | 0=>by (refine ⟨?_,?_,?_⟩ <;> intros);all_goals (first|unfold spec_pzAll.l0|unfold spec_pzAll.l1|unfold spec_pzAll.l2);all_goals exact LeO.none _
  | k+1=>by
   obtain ⟨ih0,ih1,ih2⟩:=spec_pzAll.mono_l k
   (refine ⟨?_,?_,?_⟩ <;> intros)
   all_goals (first|unfold spec_pzAll.l0|unfold spec_pzAll.l1|unfold spec_pzAll.l2)
   all_goals repeat' first
    | with_reducible first|exact ih0 _ _ _ _|exact ih1 _ _ _ _ _|exact ih2 _ _ _ _ _ _ _ _ _ _ _ _|exact spec_pzFits.mono _ _ _ _ _ _ _|exact LeO.refl _|exact LeO.none _|refine LeO.ite ?_ ?_|refine LeO.bind ?_ (fun _=>?_)
theorem spec_pzAll.mono:∀a0 a1 k,LeO (spec_pzAll.f k a0 a1) (spec_pzAll.f (k+1) a0 a1):=by
  intro a0 a1 k
  obtain ⟨ih0,ih1,ih2⟩:=spec_pzAll.mono_l k
  unfold spec_pzAll.f
  repeat' first
   | with_reducible first|exact ih0 _ _ _ _|exact ih1 _ _ _ _ _|exact ih2 _ _ _ _ _ _ _ _ _ _ _ _|exact spec_pzFits.mono _ _ _ _ _ _ _|exact LeO.refl _|exact LeO.none _|refine LeO.ite ?_ ?_|refine LeO.bind ?_ (fun _=>?_)
set_option maxHeartbeats 8000000 in
set_option maxRecDepth 100000 in
theorem spec_pzAll.calls (k:Nat) (a0:Int) (A1:Option Addr) (c1:Nat) (l1:List (S51)) (r:List (S34)) (w:World) (hr1:Kd.C k51 w A1 l1.length l1) (hc1:l1.length≤c1) (h:spec_pzAll.f k a0 l1=some r) :
    Calls Tryz.prog 39 #[.int .i64 a0,.slice A1 l1.length c1] w fun e w'=>∃v0_:Value,e=.returned (v0_)∧Kd.R k34 34 w' w.heap.size (fun _=>True) v0_ r∧Below w.heap.size w w':=by
 have hu34:=Tryz.underlying34;have hu51:=Tryz.underlying51;have HR1:=Aside0.mk hr1;have HC1:=Aside0.mk hc1;clear hr1 hc1;have HB:=qa (Below.refl w.heap.size w);have H:=h;unfold spec_pzAll.f at H;clear h;have H':=Aside0.mk H;clear H;go_enter Tryz.func39,Tryz.ntmps39;go_wp2;go_loopg [5,6] k (fun kq v5 v6 w'=>∃(x5_1:List (S34)) (x6_1:Int),v6=.int .i64 x6_1∧Aside0 (spec_pzAll.l0 kq a0 l1 x5_1 x6_1=some r)∧Aside0 (kq≤k)∧Aside0 (Kd.R k34 34 w' w.heap.size (fun _=>True) v5 x5_1)∧Aside0 (Below w.heap.size w w'))
 case atStart=>exact ⟨(([]:List (S34))),(0),qz23,H',⟨Nat.le_refl _⟩,⟨qz24⟩,⟨qz4⟩⟩
 case round=>
  clear H';obtain ⟨x5_1,x6_1,rfl,HA,HK1,HO_5,HB⟩:=hrel
  cases gk with
  | zero=>exact absurd HA.out (by simp [spec_pzAll.l0])
  | succ k1=>
   have H:=HA.out;clear HA;simp only [spec_pzAll.l0] at H;replace H:=zD' H;rcases H with ⟨c3b0,H⟩|⟨c3b0,H⟩
   ·obtain rfl:=Option.some.inj H;go_wp2;go_ret;exact ⟨_,qz15,qz25,qz4⟩
   have H':=Aside0.mk H;clear H;go_wp2;go_loopg [5,7] k1 (fun kq v5 v7 w'=>∃(x5_2:List (S34)) (x7_2:Int),v7=.int .i64 x7_2∧Aside0 (spec_pzAll.l1 kq a0 l1 x5_2 x6_1 x7_2=some r)∧Aside0 (kq≤k1)∧Aside0 (Kd.R k34 34 w' w.heap.size (fun _=>True) v5 x5_2)∧Aside0 (Below w.heap.size w w'))
   case atStart=>exact ⟨(x5_1),(0),qz23,H',⟨Nat.le_refl _⟩,⟨qz25⟩,⟨qz4⟩⟩
   case round=>
    clear H';obtain ⟨x5_2,x7_2,rfl,HA,HK2,HO_5,HB⟩:=hrel
    cases gk with
    | zero=>exact absurd HA.out (by simp [spec_pzAll.l1])
    | succ k2=>
     have H:=HA.out;clear HA;simp only [spec_pzAll.l1] at H;replace H:=zD' H;rcases H with ⟨c4b0,H⟩|⟨c4b0,H⟩
     ·have H':=Aside0.mk H;clear H;go_wp2;go_roundg k2
      case measure=>have:=HK1.out;have:=HK2.out;omega
      case rel=>exact ⟨(x5_2),(wrap64 (x6_1+1)),qz23,H',⟨qz26⟩,⟨qz25⟩,⟨qz4⟩⟩
     have H':=Aside0.mk H;clear H
     go_wp2_with (first|(refine zX (N:=8) (cs:=#[.int .i64 0,.int .i64 0,.int .i64 0]) (t:=34) (h:=?_);intro gb1 hg _ hbox hb;replace HO_5:=qa (Kd.R_below (Kd.R_elderB qz25 gb1 (Nat.le_of_eq hg.symm)) hb);have BK1:=qa hbox;have GE1:=qa (qz3:w.heap.size≤gb1);replace HB:=zs HB hb;clear hb hbox hg;have ⟨_,_,_,_,_,_⟩:=zC3 BK1.out));go_loopg [9,28] k2 (fun kq v9 v28 w'=>∃(x9_3:Bool) (x28_3:Int),v9=.bool x9_3∧v28=.int .i64 x28_3∧Aside0 (spec_pzAll.l2 kq a0 l1 x5_2 x6_1 x7_2 x9_3 l1 (l1.length:Int) x28_3 x6_1 x7_2 a0=some r)∧Aside0 (kq≤k2)∧Aside0 (Kd.R k34 34 w' w.heap.size (fun k_=>k_≠gb1) u5 x5_2)∧Aside0 (w'.heap[gb1]? = some (.cells #[.int .i64 x6_1,.int .i64 x7_2,.int .i64 a0] 34 (0,0)))∧Aside0 (Below w.heap.size w w'))
     case atStart=>exact ⟨(true),(0),qz23,qz23,H',⟨Nat.le_refl _⟩,⟨by (with_reducible repeat (first|apply Kd.R_alloc|apply Kd.R_drewN|apply Kd.R_drew));exact Kd.R_mono (Kd.R_far (p:=⟨gb1,2,none⟩) (Kd.R_far (p:=⟨gb1,1,none⟩) (Kd.R_far (p:=⟨gb1,0,none⟩) (Kd.R_mono HO_5.out (fun k_ hk=>(⟨hk,hk.2⟩:_∧k_≠gb1))) (fun _ hk=>hk.2) (.int .i64 x6_1)) (fun _ hk=>hk.2) (.int .i64 x7_2)) (fun _ hk=>hk.2) (.int .i64 a0)) (fun _ hk=>hk.1.2)⟩,⟨by (with_reducible repeat (first|refine blk_drewN ?_ _|refine blk_drew ?_|refine blk_alloc ?_ _));refine blk_put (cs:=#[.int .i64 x6_1,.int .i64 x7_2,.int .i64 0]) ?_ 2 _ rfl;(with_reducible repeat (first|refine blk_drewN ?_ _|refine blk_drew ?_|refine blk_alloc ?_ _));refine blk_put (cs:=#[.int .i64 x6_1,.int .i64 0,.int .i64 0]) ?_ 1 _ rfl;(with_reducible repeat (first|refine blk_drewN ?_ _|refine blk_drew ?_|refine blk_alloc ?_ _));refine blk_put (cs:=#[.int .i64 0,.int .i64 0,.int .i64 0]) ?_ 0 _ rfl;(with_reducible repeat (first|refine blk_drewN ?_ _|refine blk_drew ?_|refine blk_alloc ?_ _));exact BK1.out⟩,⟨qz6⟩⟩
     case round=>
      clear H';obtain ⟨x9_3,x28_3,rfl,rfl,HA,HK3,HO_5,BK1,HB⟩:=hrel
      cases gk with
      | zero=>exact absurd HA.out (by simp [spec_pzAll.l2])
      | succ k3=>
       have H:=HA.out;clear HA;simp only [spec_pzAll.l2] at H;replace H:=zD' H;rcases H with ⟨c7b0,H⟩|⟨c7b0,H⟩
       ·replace H:=zI' H;rcases H with ⟨rfl,H⟩|⟨rfl,H⟩
        ·(try dsimp only at H);have H':=Aside0.mk H;clear H;go_wp2;go_roundg k3
         case measure=>have:=HK1.out;have:=HK2.out;have:=HK3.out;omega
         case rel=>exact ⟨(x5_2),(wrap64 (x7_2+1)),qz23,H',⟨qz46⟩,⟨qz29⟩,⟨qz6⟩⟩
        (try dsimp only at H);replace H:=zAg' H;obtain ⟨LMc21,H⟩:=H;obtain ⟨y1,hy1⟩:∃y_:List (S34),y_=(x5_2++[(⟨x6_1,x7_2,a0⟩:S34)]):=⟨_,rfl⟩;replace H:(spec_pzAll.l1 k3 a0 l1 y1 x6_1 (wrap64 (x7_2+1)))=some r:=by first|(rw [hy1];with_reducible exact H)|(have H2_:=(Option.bind_some _ _).symm.trans H;rw [hy1];with_reducible exact H2_)|(have H2_:=(Option.bind_some _ _).symm.trans H;with_reducible exact H2_)|with_reducible exact H|(rw [hy1];exact H)|exact H
        have Ny1:=Aside0.mk hy1;clear hy1;have H':=Aside0.mk H;clear H;have ⟨_,_,_,_,_,_⟩:=zC3 BK1.out
        go_wp2_with (first|((with_reducible refine gate_builtin (b:=.append) (xs:=#[.tmp 40,.tmp 42]) rfl ?_);at_builtin;refine Kd.R_append k34 (w0:=w) w.heap.size rfl (.tmp 40) (.tmp 42) 28 34 (.agg #[(.int .i64 0),(.int .i64 0),(.int .i64 0)]) 24 rfl Tryz.underlying28 info34 rfl (by decide) (by omega) u5 x5_2 (⟨x6_1,x7_2,a0⟩:S34) [.int .i64 x6_1,.int .i64 x7_2,.int .i64 a0] (fun k_=>k_≠gb1) (fun _=>False) rfl rfl ?aP (fun _ hk=>hk.elim) ?aF ?aO ?aB ?aS ?aL ?_;(case aP=>exact k34_mkM _ _ _ (⟨x6_1,x7_2,a0⟩:S34));(case aB=>exact qz30);(case aF=>exact (fun k_ hk=>Kd.freshB (g:=gb1) (o:=.cells #[.int .i64 x6_1,.int .i64 x7_2,.int .i64 a0] 34 (0,0)) qz8 k_ hk));(case aO=>exact qz47);(case aS=>exact qz31);(case aL=>have:=LMc21.out;omega);intro v332 w23 ho hb hg hat;rw [← Ny1.out] at ho;have n0_:=qa (blk_grown (g:=gb1) (o:=.cells #[.int .i64 x6_1,.int .i64 x7_2,.int .i64 a0] 34 (0,0)) qz8 hg (Kd.R_away HO_5.out (fun _ hk=>hk)));have n1_:=qa (hb);have n2_:=qa (ho);clear BK1;clear HB;clear HO_5;have BK1:=n0_;have HB:=n1_;have HO1:=n2_;clear n0_ n1_ n2_;clear ho hb hg hat))
        go_roundg k3
        case measure=>have:=HK1.out;have:=HK2.out;have:=HK3.out;omega
        case rel=>exact ⟨(y1),(wrap64 (x7_2+1)),qz23,H',⟨qz46⟩,⟨qz32⟩,⟨qz6⟩⟩
       replace H:=zDg' H;obtain ⟨c8b0,H⟩:=H;replace H:=zDg' H;obtain ⟨c9b0,H⟩:=H;replace H:=zI' H;rcases H with ⟨rfl,H⟩|⟨rfl,H⟩
       ·(try dsimp only at H);have H':=Aside0.mk H;clear H;have p328:0≤(x28_3:Int):=of_decide_eq_true qz38;have q328:x28_3<(l1.length:Int):=of_decide_eq_true qz38;obtain ⟨ad328,e328,hx328_0,hx328_1,hx328_2⟩:=at_T51 HR1.out x28_3 p328 q328
        cases e328
        replace hx328_0:=(HB.out.cell (World.block_lt_of_cell? w _ hx328_0)).trans hx328_0;replace hx328_1:=(HB.out.cell (World.block_lt_of_cell? w _ hx328_1)).trans hx328_1;replace hx328_2:=(HB.out.cell (World.block_lt_of_cell? w _ hx328_2)).trans hx328_2;replace p328:=eq_true p328;replace q328:=eq_true q328
        go_wp2_with (first|(refine zX (N:=11) (cs:=#[.int .i64 0,.int .i64 0,.int .i64 0]) (t:=51) (h:=?_);intro gb2 hg _ hbox hb;replace HO_5:=qa (Kd.R_below qz25 hb);have BK2:=qa hbox;have GE2:=qa (qz5:w.heap.size≤gb2);replace HB:=qa (below_step qz6 hb);have NB1_2:=qa (qz48:gb1≠gb2);have NB2_1:=qa (qz49:gb2≠gb1);replace BK1:=zBb BK1 hb;clear hb hbox hg;have hnb18:=NB2_1.out;have hnc18:=NB1_2.out;have ⟨_,_,_,_,_,_⟩:=zC3 BK2.out))
        go_roundg k3
        case measure=>have:=HK1.out;have:=HK2.out;have:=HK3.out;omega
        case rel=>exact ⟨(false),(wrap64 (x28_3+1)),qz23,qz23,H',⟨qz46⟩,⟨by (with_reducible repeat (first|apply Kd.R_alloc|apply Kd.R_drewN|apply Kd.R_drew));exact Kd.R_mono (Kd.R_far (p:=⟨gb2,2,none⟩) (Kd.R_far (p:=⟨gb2,1,none⟩) (Kd.R_far (p:=⟨gb2,0,none⟩) (Kd.R_types HO_5.out BK2.out (by decide)) (fun _ hk=>hk.2) (.int .i64 ((rd_T51 l1 x28_3).f0))) (fun _ hk=>hk.2) (.int .i64 ((rd_T51 l1 x28_3).f1))) (fun _ hk=>hk.2) (.int .i64 ((rd_T51 l1 x28_3).f2))) (fun _ hk=>hk.1)⟩,⟨qz41⟩,⟨qz11⟩⟩
       (try dsimp only at H);replace H:=zB H;obtain ⟨t1,A11,H⟩:=H;have H':=Aside0.mk H;clear H;have p328:0≤(x28_3:Int):=of_decide_eq_true qz38;have q328:x28_3<(l1.length:Int):=of_decide_eq_true qz38;obtain ⟨ad328,e328,hx328_0,hx328_1,hx328_2⟩:=at_T51 HR1.out x28_3 p328 q328
       cases e328
       replace hx328_0:=(HB.out.cell (World.block_lt_of_cell? w _ hx328_0)).trans hx328_0;replace hx328_1:=(HB.out.cell (World.block_lt_of_cell? w _ hx328_1)).trans hx328_1;replace hx328_2:=(HB.out.cell (World.block_lt_of_cell? w _ hx328_2)).trans hx328_2;replace p328:=eq_true p328;replace q328:=eq_true q328
       go_wp2_with (first|(refine zX (N:=11) (cs:=#[.int .i64 0,.int .i64 0,.int .i64 0]) (t:=51) (h:=?_);intro gb2 hg _ hbox hb;replace HO_5:=qa (Kd.R_below qz25 hb);have BK2:=qa hbox;have GE2:=qa (qz5:w.heap.size≤gb2);replace HB:=qa (below_step qz6 hb);have NB1_2:=qa (qz48:gb1≠gb2);have NB2_1:=qa (qz49:gb2≠gb1);replace BK1:=zBb BK1 hb;clear hb hbox hg;have hnb13:=NB2_1.out;have hnc13:=NB1_2.out;have ⟨_,_,_,_,_,_⟩:=zC3 BK2.out;have ⟨_,_,_,_,_,_⟩:=zC3 BK1.out)|(go_at_call 64;(with_reducible refine (spec_pzFits.calls k3 ((rd_T51 l1 x28_3).f0) ((rd_T51 l1 x28_3).f1) ((rd_T51 l1 x28_3).f2) x6_1 x7_2 a0 t1 _ A11.out).mono ?_);rintro e _ ⟨rfl,hb⟩;replace HO_5:=qa (Kd.R_below (by (with_reducible repeat (first|apply Kd.R_alloc|apply Kd.R_drewN|apply Kd.R_drew));exact (Kd.R_mono (Kd.R_far (p:=⟨gb2,2,none⟩) (Kd.R_far (p:=⟨gb2,1,none⟩) (Kd.R_far (p:=⟨gb2,0,none⟩) (Kd.R_types HO_5.out BK2.out (by decide)) (fun _ hk=>hk.2) (.int .i64 ((rd_T51 l1 x28_3).f0))) (fun _ hk=>hk.2) (.int .i64 ((rd_T51 l1 x28_3).f1))) (fun _ hk=>hk.2) (.int .i64 ((rd_T51 l1 x28_3).f2))) (fun _ h_=>h_.1))) hb);replace BK1:=qa (blk_below (g:=gb1) (o:=.cells #[.int .i64 x6_1,.int .i64 x7_2,.int .i64 a0] 34 (0,0)) qz41 hb);replace BK2:=qa (blk_below (g:=gb2) (o:=.cells #[.int .i64 ((rd_T51 l1 x28_3).f0),.int .i64 ((rd_T51 l1 x28_3).f1),.int .i64 ((rd_T51 l1 x28_3).f2)] 51 (0,0)) (by (with_reducible repeat (first|refine blk_drewN ?_ _|refine blk_drew ?_|refine blk_alloc ?_ _));refine blk_put (cs:=#[.int .i64 ((rd_T51 l1 x28_3).f0),.int .i64 ((rd_T51 l1 x28_3).f1),.int .i64 0]) ?_ 2 _ rfl;(with_reducible repeat (first|refine blk_drewN ?_ _|refine blk_drew ?_|refine blk_alloc ?_ _));refine blk_put (cs:=#[.int .i64 ((rd_T51 l1 x28_3).f0),.int .i64 0,.int .i64 0]) ?_ 1 _ rfl;(with_reducible repeat (first|refine blk_drewN ?_ _|refine blk_drew ?_|refine blk_alloc ?_ _));refine blk_put (cs:=#[.int .i64 0,.int .i64 0,.int .i64 0]) ?_ 0 _ rfl;(with_reducible repeat (first|refine blk_drewN ?_ _|refine blk_drew ?_|refine blk_alloc ?_ _));exact BK2.out) hb);replace HB:=qa (below_step qz11 hb);clear hb))
       go_roundg k3
       case measure=>have:=HK1.out;have:=HK2.out;have:=HK3.out;omega
       case rel=>exact ⟨(t1),(wrap64 (x28_3+1)),qz23,qz23,H',⟨qz46⟩,⟨qz25⟩,⟨qz8⟩,⟨qz11⟩⟩
def spec_Solutions.f (k:Nat) (a0_0:Int) (l0_1:List (S51)):Option ((List (S34))×Bool):=(spec_pzGood.f k a0_0 l0_1).bind fun t335=>(if t335=true then ((spec_pzAll.f k a0_0 l0_1).bind fun t336=>(some (t336,true))) else (some (([]:List (S34)),false)))
theorem spec_Solutions.mono:∀a0 a1 k,LeO (spec_Solutions.f k a0 a1) (spec_Solutions.f (k+1) a0 a1):=by
  intro a0 a1 k
  unfold spec_Solutions.f
  repeat' first
   | with_reducible first|exact spec_pzAll.mono _ _ _|exact spec_pzGood.mono _ _ _|exact LeO.refl _|exact LeO.none _|refine LeO.ite ?_ ?_|refine LeO.bind ?_ (fun _=>?_)
set_option maxHeartbeats 8000000 in
set_option maxRecDepth 100000 in
theorem spec_Solutions.calls (k:Nat) (a0_0:Int) (A0_1:Option Addr) (c0_1:Nat) (l0_1:List (S51)) (r1:List (S34)) (r2:Bool) (w:World) (hr0_1:Kd.C k51 w A0_1 l0_1.length l0_1) (hc0_1:l0_1.length≤c0_1) (h:spec_Solutions.f k a0_0 l0_1=some (r1,r2)) :
    Calls Tryz.prog 7 #[.agg #[.int .i64 a0_0,.slice A0_1 l0_1.length c0_1]] w fun e w'=>∃v0_:Value,e=.returned (.tuple #[v0_,.bool r2])∧Kd.R k34 34 w' w.heap.size (fun _=>True) v0_ r1∧Below w.heap.size w w':=by
 have hu26:=Tryz.underlying26;have HR0_1:=Aside0.mk hr0_1;have HC0_1:=Aside0.mk hc0_1;clear hr0_1 hc0_1;have HB:=qa (Below.refl w.heap.size w);have H:=h;unfold spec_Solutions.f at H;clear h;replace H:=zB H;obtain ⟨t1,A2,H⟩:=H;replace H:=zI' H;rcases H with ⟨rfl,H⟩|⟨rfl,H⟩
 ·(try dsimp only at H);simp only [Option.some.injEq,Prod.mk.injEq] at H;obtain ⟨rfl,rfl⟩:=H;go_enter Tryz.func7,Tryz.ntmps7
  go_wp2_with (first|(refine zX (N:=1) (cs:=#[.int .i64 a0_0,.slice A0_1 l0_1.length c0_1]) (t:=26) (h:=?_);intro gb1 hg _ hbox hb;have BK1:=qa hbox;have GE1:=qa (qz3:w.heap.size≤gb1);replace HB:=zs HB hb;clear hb hbox hg;have ⟨_,_,_,_⟩:=zC2 BK1.out)|(refine zL 38 (some 5) Tryz.func38 #[.agg #[.int .i64 a0_0,.slice A0_1 l0_1.length c0_1]] (h:=?_);refine (spec_pzGood.calls k a0_0 _ _ l0_1 false _ qz33 HC0_1.out A2.out).mono ?_;rintro e _ ⟨rfl,hb⟩;refine ⟨_,rfl,?_⟩;replace BK1:=zBb BK1 hb;replace HB:=qa (below_step qz6 hb);clear hb))
  go_ret2;exact ⟨_,qz15,qz24,qz6⟩
 (try dsimp only at H);replace H:=zB H;obtain ⟨t2,A4,H⟩:=H;simp only [Option.some.injEq,Prod.mk.injEq] at H;obtain ⟨rfl,rfl⟩:=H;go_enter Tryz.func7,Tryz.ntmps7
 go_wp2_with (first|(refine zX (N:=1) (cs:=#[.int .i64 a0_0,.slice A0_1 l0_1.length c0_1]) (t:=26) (h:=?_);intro gb1 hg _ hbox hb;have BK1:=qa hbox;have GE1:=qa (qz3:w.heap.size≤gb1);replace HB:=zs HB hb;clear hb hbox hg;have ⟨_,_,_,_⟩:=zC2 BK1.out)|(refine zL 38 (some 5) Tryz.func38 #[.agg #[.int .i64 a0_0,.slice A0_1 l0_1.length c0_1]] (h:=?_);refine (spec_pzGood.calls k a0_0 _ _ l0_1 true _ qz33 HC0_1.out A2.out).mono ?_;rintro e _ ⟨rfl,hb⟩;refine ⟨_,rfl,?_⟩;replace BK1:=zBb BK1 hb;replace HB:=qa (below_step qz6 hb);clear hb;have ⟨_,_,_,_⟩:=zC2 BK1.out)|(refine zL 39 (some 11) Tryz.func39 #[.int .i64 a0_0,.slice A0_1 l0_1.length c0_1] (h:=?_);refine (spec_pzAll.calls k a0_0 _ _ l0_1 t2 _ qz33 HC0_1.out A4.out).mono ?_;rintro e _ ⟨v337,rfl,ho0,hb⟩;refine ⟨_,rfl,?_⟩;have HO1:=qa (Kd.R_lower ho0 (below_size qz6));replace BK1:=zBb BK1 hb;replace HB:=qa (below_step qz6 hb);clear hb ho0))
 go_ret2;exact ⟨_,qz15,qz34,qz6⟩
def impl_CountSolutions.f (k:Nat) (a0_0:Int) (l0_1:List (S51)):Option (Int×Bool):=(impl_Solutions.f k a0_0 l0_1).bind fun bt340=>(some ((bt340.1.length:Int),bt340.2))
theorem impl_CountSolutions.mono:∀a0 a1 k,LeO (impl_CountSolutions.f k a0 a1) (impl_CountSolutions.f (k+1) a0 a1):=by
  intro a0 a1 k
  unfold impl_CountSolutions.f
  repeat' first
   | with_reducible first|exact impl_Solutions.mono _ _ _|exact LeO.refl _|exact LeO.none _|refine LeO.ite ?_ ?_|refine LeO.bind ?_ (fun _=>?_)
set_option maxHeartbeats 8000000 in
set_option maxRecDepth 100000 in
theorem impl_CountSolutions.calls (k:Nat) (a0_0:Int) (A0_1:Option Addr) (c0_1:Nat) (l0_1:List (S51)) (r1:Int) (r2:Bool) (w:World) (hr0_1:Kd.C k51 w A0_1 l0_1.length l0_1) (hc0_1:l0_1.length≤c0_1) (h:impl_CountSolutions.f k a0_0 l0_1=some (r1,r2)) :
    Calls Tryz.prog 8 #[.agg #[.int .i64 a0_0,.slice A0_1 l0_1.length c0_1]] w fun e w'=>e=.returned (.tuple #[.int .i64 r1,.bool r2])∧Below w.heap.size w w':=by
 have hu26:=Tryz.underlying26;have HR0_1:=Aside0.mk hr0_1;have HC0_1:=Aside0.mk hc0_1;clear hr0_1 hc0_1;have HB:=qa (Below.refl w.heap.size w);have H:=h;unfold impl_CountSolutions.f at H;clear h;replace H:=zB H;obtain ⟨⟨t1,t2⟩,A2,H⟩:=H;(try dsimp only at H);simp only [Option.some.injEq,Prod.mk.injEq] at H;obtain ⟨rfl,rfl⟩:=H;go_enter Tryz.func8,Tryz.ntmps8
 go_wp2_with (first|(refine zX (N:=1) (cs:=#[.int .i64 a0_0,.slice A0_1 l0_1.length c0_1]) (t:=26) (h:=?_);intro gb1 hg _ hbox hb;have BK1:=qa hbox;have GE1:=qa (qz3:w.heap.size≤gb1);replace HB:=zs HB hb;clear hb hbox hg;have ⟨_,_,_,_⟩:=zC2 BK1.out)|(refine zL 6 (some 8) Tryz.func6 #[.agg #[.int .i64 a0_0,.slice A0_1 l0_1.length c0_1]] (h:=?_);refine (impl_Solutions.calls k a0_0 _ _ l0_1 t1 t2 _ qz33 HC0_1.out A2.out).mono ?_;rintro e _ ⟨v341,rfl,ho0,hb⟩;refine ⟨_,rfl,?_⟩;have HO1:=qa (Kd.R_lower ho0 (below_size qz6));replace BK1:=zBb BK1 hb;replace HB:=qa (below_step qz6 hb);clear hb ho0;obtain ⟨Ao6,co6,eo6⟩:=Kd.R_slice HO1.out;subst eo6))
 go_ret2;exact ⟨qz15,qz6⟩
def spec_CountSolutions.f (k:Nat) (a0_0:Int) (l0_1:List (S51)):Option (Int×Bool):=(spec_pzGood.f k a0_0 l0_1).bind fun t345=>(if t345=true then ((spec_pzAll.f k a0_0 l0_1).bind fun t346=>(some ((t346.length:Int),true))) else (some (0,false)))
theorem spec_CountSolutions.mono:∀a0 a1 k,LeO (spec_CountSolutions.f k a0 a1) (spec_CountSolutions.f (k+1) a0 a1):=by
  intro a0 a1 k
  unfold spec_CountSolutions.f
  repeat' first
   | with_reducible first|exact spec_pzAll.mono _ _ _|exact spec_pzGood.mono _ _ _|exact LeO.refl _|exact LeO.none _|refine LeO.ite ?_ ?_|refine LeO.bind ?_ (fun _=>?_)
set_option maxHeartbeats 8000000 in
set_option maxRecDepth 100000 in
theorem spec_CountSolutions.calls (k:Nat) (a0_0:Int) (A0_1:Option Addr) (c0_1:Nat) (l0_1:List (S51)) (r1:Int) (r2:Bool) (w:World) (hr0_1:Kd.C k51 w A0_1 l0_1.length l0_1) (hc0_1:l0_1.length≤c0_1) (h:spec_CountSolutions.f k a0_0 l0_1=some (r1,r2)) :
    Calls Tryz.prog 9 #[.agg #[.int .i64 a0_0,.slice A0_1 l0_1.length c0_1]] w fun e w'=>e=.returned (.tuple #[.int .i64 r1,.bool r2])∧Below w.heap.size w w':=by
 have hu26:=Tryz.underlying26;have HR0_1:=Aside0.mk hr0_1;have HC0_1:=Aside0.mk hc0_1;clear hr0_1 hc0_1;have HB:=qa (Below.refl w.heap.size w);have H:=h;unfold spec_CountSolutions.f at H;clear h;replace H:=zB H;obtain ⟨t1,A2,H⟩:=H;replace H:=zI' H;rcases H with ⟨rfl,H⟩|⟨rfl,H⟩
 ·(try dsimp only at H);simp only [Option.some.injEq,Prod.mk.injEq] at H;obtain ⟨rfl,rfl⟩:=H;go_enter Tryz.func9,Tryz.ntmps9
  go_wp2_with (first|(refine zX (N:=1) (cs:=#[.int .i64 a0_0,.slice A0_1 l0_1.length c0_1]) (t:=26) (h:=?_);intro gb1 hg _ hbox hb;have BK1:=qa hbox;have GE1:=qa (qz3:w.heap.size≤gb1);replace HB:=zs HB hb;clear hb hbox hg;have ⟨_,_,_,_⟩:=zC2 BK1.out)|(refine zL 38 (some 5) Tryz.func38 #[.agg #[.int .i64 a0_0,.slice A0_1 l0_1.length c0_1]] (h:=?_);refine (spec_pzGood.calls k a0_0 _ _ l0_1 false _ qz33 HC0_1.out A2.out).mono ?_;rintro e _ ⟨rfl,hb⟩;refine ⟨_,rfl,?_⟩;replace BK1:=zBb BK1 hb;replace HB:=qa (below_step qz6 hb);clear hb))
  go_ret2;exact ⟨qz15,qz6⟩
 (try dsimp only at H);replace H:=zB H;obtain ⟨t2,A4,H⟩:=H;simp only [Option.some.injEq,Prod.mk.injEq] at H;obtain ⟨rfl,rfl⟩:=H;go_enter Tryz.func9,Tryz.ntmps9
 go_wp2_with (first|(refine zX (N:=1) (cs:=#[.int .i64 a0_0,.slice A0_1 l0_1.length c0_1]) (t:=26) (h:=?_);intro gb1 hg _ hbox hb;have BK1:=qa hbox;have GE1:=qa (qz3:w.heap.size≤gb1);replace HB:=zs HB hb;clear hb hbox hg;have ⟨_,_,_,_⟩:=zC2 BK1.out)|(refine zL 38 (some 5) Tryz.func38 #[.agg #[.int .i64 a0_0,.slice A0_1 l0_1.length c0_1]] (h:=?_);refine (spec_pzGood.calls k a0_0 _ _ l0_1 true _ qz33 HC0_1.out A2.out).mono ?_;rintro e _ ⟨rfl,hb⟩;refine ⟨_,rfl,?_⟩;replace BK1:=zBb BK1 hb;replace HB:=qa (below_step qz6 hb);clear hb;have ⟨_,_,_,_⟩:=zC2 BK1.out)|(refine zL 39 (some 11) Tryz.func39 #[.int .i64 a0_0,.slice A0_1 l0_1.length c0_1] (h:=?_);refine (spec_pzAll.calls k a0_0 _ _ l0_1 t2 _ qz33 HC0_1.out A4.out).mono ?_;rintro e _ ⟨v347,rfl,ho0,hb⟩;refine ⟨_,rfl,?_⟩;have HO1:=qa (Kd.R_lower ho0 (below_size qz6));replace BK1:=zBb BK1 hb;replace HB:=qa (below_step qz6 hb);clear hb ho0;obtain ⟨Ao10,co10,eo10⟩:=Kd.R_slice HO1.out;subst eo10))
 go_ret2;exact ⟨qz15,qz6⟩
def impl_FirstSolution.f (k:Nat) (a0_0:Int) (l0_1:List (S51)):Option (Int×Int×Int×Bool):=(impl_Solutions.f k a0_0 l0_1).bind fun bt351=>(if (bt351.1.length:Int)=0 then (some (0,0,0,false)) else (if 0<(bt351.1.length:Int) then (some ((rd_T34 bt351.1 0).f0,(rd_T34 bt351.1 0).f1,(rd_T34 bt351.1 0).f2,true)) else (none)))
theorem impl_FirstSolution.mono:∀a0 a1 k,LeO (impl_FirstSolution.f k a0 a1) (impl_FirstSolution.f (k+1) a0 a1):=by
  intro a0 a1 k
  unfold impl_FirstSolution.f
  repeat' first
   | with_reducible first|exact impl_Solutions.mono _ _ _|exact LeO.refl _|exact LeO.none _|refine LeO.ite ?_ ?_|refine LeO.bind ?_ (fun _=>?_)
set_option maxHeartbeats 8000000 in
set_option maxRecDepth 100000 in
theorem impl_FirstSolution.calls (k:Nat) (a0_0:Int) (A0_1:Option Addr) (c0_1:Nat) (l0_1:List (S51)) (r1:Int) (r2:Int) (r3:Int) (r4:Bool) (w:World) (hr0_1:Kd.C k51 w A0_1 l0_1.length l0_1) (hc0_1:l0_1.length≤c0_1) (h:impl_FirstSolution.f k a0_0 l0_1=some (r1,r2,r3,r4)) :
    Calls Tryz.prog 10 #[.agg #[.int .i64 a0_0,.slice A0_1 l0_1.length c0_1]] w fun e w'=>e=.returned (.tuple #[.agg #[.int .i64 r1,.int .i64 r2,.int .i64 r3],.bool r4])∧Below w.heap.size w w':=by
 have hu26:=Tryz.underlying26;have hu34:=Tryz.underlying34;have HR0_1:=Aside0.mk hr0_1;have HC0_1:=Aside0.mk hc0_1;clear hr0_1 hc0_1;have HB:=qa (Below.refl w.heap.size w);have H:=h;unfold impl_FirstSolution.f at H;clear h;replace H:=zB H;obtain ⟨⟨t1,t2⟩,A2,H⟩:=H;(try dsimp only at H);replace H:=zS H;rcases H with ⟨c3,H⟩|⟨c3,H⟩
 ·have ⟨c3b0,c3b1⟩:=zEq c3;clear c3;simp only [Option.some.injEq,Prod.mk.injEq] at H;obtain ⟨rfl,rfl,rfl,rfl⟩:=H;go_enter Tryz.func10,Tryz.ntmps10
  go_wp2_with (first|(refine zX (N:=1) (cs:=#[.int .i64 a0_0,.slice A0_1 l0_1.length c0_1]) (t:=26) (h:=?_);intro gb1 hg _ hbox hb;have BK1:=qa hbox;have GE1:=qa (qz3:w.heap.size≤gb1);replace HB:=zs HB hb;clear hb hbox hg)|(refine zX (N:=2) (cs:=#[.int .i64 0,.int .i64 0,.int .i64 0]) (t:=34) (h:=?_);intro gb2 hg _ hbox hb;have BK2:=qa hbox;have GE2:=qa (qz5:w.heap.size≤gb2);replace HB:=qa (below_step qz6 hb);have NB1_2:=qa (qz50:gb1≠gb2);have NB2_1:=qa (qz51:gb2≠gb1);replace BK1:=zBb BK1 hb;clear hb hbox hg;have hnb6:=NB1_2.out;have hnc6:=NB2_1.out;have ⟨_,_,_,_⟩:=zC2 BK1.out)|(refine zL 6 (some 8) Tryz.func6 #[.agg #[.int .i64 a0_0,.slice A0_1 l0_1.length c0_1]] (h:=?_);refine (impl_Solutions.calls k a0_0 _ _ l0_1 t1 t2 _ qz33 HC0_1.out A2.out).mono ?_;rintro e _ ⟨v352,rfl,ho0,hb⟩;refine ⟨_,rfl,?_⟩;have HO1:=qa (Kd.R_lower (Kd.R_newB ho0 (g:=gb2) (o:=.cells #[.int .i64 0,.int .i64 0,.int .i64 0] 34 (0,0)) qz13) (below_size qz11));replace BK1:=zBb BK1 hb;replace BK2:=zBb BK2 hb;replace HB:=qa (below_step qz11 hb);clear hb ho0;obtain ⟨Ao9,co9,eo9⟩:=Kd.R_slice HO1.out;subst eo9;have ⟨_,_,_,_,_,_⟩:=zC3 BK2.out))
  refine bodyPost_ret (results_ct rfl _ _ gb2 34 #[.int .i64 0,.int .i64 0,.int .i64 0] (0,0) _ rfl qz52 Tryz.underlying34 rfl qz2) rfl ?_;exact ⟨qz15,qz11⟩
 have ⟨c3b0,c3b1⟩:=zNe c3;have c3b2:¬(t1=[]):=fun h_=>c3 (by rw [h_];rfl)
 replace H:=zSg' H;obtain ⟨c11,H⟩:=H;have c11b0:=decide_eq_true c11;have c11b1:decide (0<t1.length)=true:=decide_eq_true (by omega);clear c11;simp only [Option.some.injEq,Prod.mk.injEq] at H;obtain ⟨rfl,rfl,rfl,rfl⟩:=H;go_enter Tryz.func10,Tryz.ntmps10
 go_wp2_with (first|(refine zX (N:=1) (cs:=#[.int .i64 a0_0,.slice A0_1 l0_1.length c0_1]) (t:=26) (h:=?_);intro gb1 hg _ hbox hb;have BK1:=qa hbox;have GE1:=qa (qz3:w.heap.size≤gb1);replace HB:=zs HB hb;clear hb hbox hg)|(refine zX (N:=2) (cs:=#[.int .i64 0,.int .i64 0,.int .i64 0]) (t:=34) (h:=?_);intro gb2 hg _ hbox hb;have BK2:=qa hbox;have GE2:=qa (qz5:w.heap.size≤gb2);replace HB:=qa (below_step qz6 hb);have NB1_2:=qa (qz50:gb1≠gb2);have NB2_1:=qa (qz51:gb2≠gb1);replace BK1:=zBb BK1 hb;clear hb hbox hg;have hnb14:=NB1_2.out;have hnc14:=NB2_1.out;have ⟨_,_,_,_⟩:=zC2 BK1.out)|(refine zL 6 (some 8) Tryz.func6 #[.agg #[.int .i64 a0_0,.slice A0_1 l0_1.length c0_1]] (h:=?_);refine (impl_Solutions.calls k a0_0 _ _ l0_1 t1 t2 _ qz33 HC0_1.out A2.out).mono ?_;rintro e _ ⟨v352,rfl,ho0,hb⟩;refine ⟨_,rfl,?_⟩;have HO1:=qa (Kd.R_lower (Kd.R_newB ho0 (g:=gb2) (o:=.cells #[.int .i64 0,.int .i64 0,.int .i64 0] 34 (0,0)) qz13) (below_size qz11));replace BK1:=zBb BK1 hb;replace BK2:=zBb BK2 hb;replace HB:=qa (below_step qz11 hb);clear hb ho0;obtain ⟨Ao17,co17,eo17⟩:=Kd.R_slice HO1.out;subst eo17;have p355:0≤(0:Int):=(by omega);have q355:0<(t1.length:Int):=of_decide_eq_true qz38;obtain ⟨ad355,e355,hx355_0,hx355_1,hx355_2⟩:=at_T34 (Kd.R_reads' HO1.out).2.2 0 p355 q355;cases e355;have qi355:(0<t1.length)=True:=eq_true (by omega);(try rw [show ((0:Int)).toNat=0 from rfl] at hx355_0);(try rw [show 0*3=0 from rfl] at hx355_0);(try rw [Addr.add_zero'] at hx355_0);(try rw [show ((0:Int)).toNat=0 from rfl] at hx355_1);(try rw [show 0*3=0 from rfl] at hx355_1);(try rw [Addr.add_zero'] at hx355_1);(try rw [show ((0:Int)).toNat=0 from rfl] at hx355_2);(try rw [show 0*3=0 from rfl] at hx355_2);(try rw [Addr.add_zero'] at hx355_2);replace p355:=eq_true p355;replace q355:=eq_true q355;have ⟨_,_,_,_,_,_⟩:=zC3 BK2.out))
 refine bodyPost_ret (results_ct rfl _ _ gb2 34 #[.int .i64 ((rd_T34 t1 0).f0),.int .i64 ((rd_T34 t1 0).f1),.int .i64 ((rd_T34 t1 0).f2)] (0,0) _ rfl (by (with_reducible repeat (first|refine blk_drewN ?_ _|refine blk_drew ?_|refine blk_alloc ?_ _));refine blk_put (cs:=#[.int .i64 ((rd_T34 t1 0).f0),.int .i64 ((rd_T34 t1 0).f1),.int .i64 0]) ?_ 2 _ rfl;(with_reducible repeat (first|refine blk_drewN ?_ _|refine blk_drew ?_|refine blk_alloc ?_ _));refine blk_put (cs:=#[.int .i64 ((rd_T34 t1 0).f0),.int .i64 0,.int .i64 0]) ?_ 1 _ rfl;(with_reducible repeat (first|refine blk_drewN ?_ _|refine blk_drew ?_|refine blk_alloc ?_ _));refine blk_put (cs:=#[.int .i64 0,.int .i64 0,.int .i64 0]) ?_ 0 _ rfl;(with_reducible repeat (first|refine blk_drewN ?_ _|refine blk_drew ?_|refine blk_alloc ?_ _));exact BK2.out) Tryz.underlying34 rfl qz2) rfl ?_
 exact ⟨qz15,qz11⟩
end Go.Proofs.YtdphjeiccokhnaaGreatDoor.QFnChainsGuessed
