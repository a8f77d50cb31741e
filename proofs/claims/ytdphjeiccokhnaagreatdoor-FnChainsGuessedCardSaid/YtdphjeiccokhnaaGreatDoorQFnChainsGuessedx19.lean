/- The functions that a law reaches, as plain Lean functions, and their walks. Written by a program of this session, turned out of the kit's print. Conditions: those that each theorem names. -/
import Derived.Test.YtdphjeiccokhnaaGreatDoorMac
import Derived.Test.YtdphjeiccokhnaaGreatDoorQFnChainsGuessedx0
import Derived.Test.YtdphjeiccokhnaaGreatDoorQFnChainsGuessedx11
import Derived.Test.YtdphjeiccokhnaaGreatDoorQFnChainsGuessedx18
namespace Go.Proofs.YtdphjeiccokhnaaGreatDoor.QFnChainsGuessed
open Go.RowKit Go.Proofs.YtdphjeiccokhnaaGreatDoorW.PrintWords Go.Proofs.YtdphjeiccokhnaaGreatDoorW.PrintLast Go.Proofs.YtdphjeiccokhnaaGreatDoorW.PrintMore Go.Proofs.YtdphjeiccokhnaaGreatDoor.Mac
attribute [local go_sem] max2_int min2_int max_two min_two max_three min_three max_four min_four
attribute [local go_sem] Go.Proofs.YtdphjeiccokhnaaGreatDoor.Kit.isSome_setCell
set_option linter.unusedVariables false
set_option linter.unusedSimpArgs false
attribute [local go_sem high] eqA34
def spec_pzText.l0:Nat→ByteArray→List (S51)→Int→Int→Option (ByteArray)
  | 0,_,_,_,_=>none
  | k+1,x3,x11,x12,x13=>if x13<x12 then (if 0≤x13 then (if x13<(x11.length:Int) then (if x13>0 then (if x3.size+1≤9223372036854775807 then ((spec_l1Num.f k ((rd_T51 x11 x13).f0)).bind fun t522=>(if t522.size+1≤9223372036854775807 then ((spec_l1Num.f k ((rd_T51 x11 x13).f1)).bind fun t523=>(if (t522++(⟨#[46]⟩:ByteArray)).size+t523.size≤9223372036854775807 then (if ((t522++(⟨#[46]⟩:ByteArray))++t523).size+1≤9223372036854775807 then ((spec_l1Num.f k ((rd_T51 x11 x13).f2)).bind fun t524=>(if (((t522++(⟨#[46]⟩:ByteArray))++t523)++(⟨#[46]⟩:ByteArray)).size+t524.size≤9223372036854775807 then (if (x3++(⟨#[44]⟩:ByteArray)).size+((((t522++(⟨#[46]⟩:ByteArray))++t523)++(⟨#[46]⟩:ByteArray))++t524).size≤9223372036854775807 then (spec_pzText.l0 k ((x3++(⟨#[44]⟩:ByteArray))++((((t522++(⟨#[46]⟩:ByteArray))++t523)++(⟨#[46]⟩:ByteArray))++t524)) x11 x12 (wrap64 (x13+1))) else (none)) else (none))) else (none)) else (none))) else (none))) else (none)) else ((spec_l1Num.f k ((rd_T51 x11 x13).f0)).bind fun t525=>(if t525.size+1≤9223372036854775807 then ((spec_l1Num.f k ((rd_T51 x11 x13).f1)).bind fun t526=>(if (t525++(⟨#[46]⟩:ByteArray)).size+t526.size≤9223372036854775807 then (if ((t525++(⟨#[46]⟩:ByteArray))++t526).size+1≤9223372036854775807 then ((spec_l1Num.f k ((rd_T51 x11 x13).f2)).bind fun t527=>(if (((t525++(⟨#[46]⟩:ByteArray))++t526)++(⟨#[46]⟩:ByteArray)).size+t527.size≤9223372036854775807 then (if x3.size+((((t525++(⟨#[46]⟩:ByteArray))++t526)++(⟨#[46]⟩:ByteArray))++t527).size≤9223372036854775807 then (spec_pzText.l0 k (x3++((((t525++(⟨#[46]⟩:ByteArray))++t526)++(⟨#[46]⟩:ByteArray))++t527)) x11 x12 (wrap64 (x13+1))) else (none)) else (none))) else (none)) else (none))) else (none)))) else (none)) else (none)) else (some x3)
def spec_pzText.f (k:Nat) (a0_0:Int) (l0_1:List (S51)):Option (ByteArray):=(spec_l1Num.f k a0_0).bind fun t519=>(if t519.size+1≤9223372036854775807 then (spec_pzText.l0 k (t519++(⟨#[58]⟩:ByteArray)) l0_1 (l0_1.length:Int) 0) else (none))
theorem spec_pzText.mono_l:∀k,(∀y0 y1 y2 y3,LeO (spec_pzText.l0 k y0 y1 y2 y3) (spec_pzText.l0 (k+1) y0 y1 y2 y3))
  | 0=>fun _ _ _ _ r h=>by simp [spec_pzText.l0] at h
  | k+1=>by
    have ih0:=spec_pzText.mono_l k
    · intro y0 y1 y2 y3
      unfold spec_pzText.l0
      repeat' first
   | with_reducible first|exact ih0 _ _ _ _|exact spec_l1Num.mono _ _|exact LeO.refl _|exact LeO.none _|refine LeO.ite ?_ ?_|refine LeO.bind ?_ (fun _=>?_)
theorem spec_pzText.mono:∀a0 a1 k,LeO (spec_pzText.f k a0 a1) (spec_pzText.f (k+1) a0 a1):=by
  intro a0 a1 k
  have ih0:=spec_pzText.mono_l k
  unfold spec_pzText.f
  repeat' first
   | with_reducible first|exact ih0 _ _ _ _|exact spec_l1Num.mono _ _|exact LeO.refl _|exact LeO.none _|refine LeO.ite ?_ ?_|refine LeO.bind ?_ (fun _=>?_)
def spec_pzText.T7:Bool×List (List Nat×List Nat):=(true,[([],[]),([],[]),([1],[1]),([2],[2]),([3],[3]),([],[]),([5],[5]),([6,3],[6]),([4,7],[4,7]),([8],[8]),([],[]),([10],[10]),([11,7],[11]),([9,12],[9,12]),([0,13],[0,13]),([14,12,0,1,2,3,4,5,6,7,8,9,10,11,12,13,14],[0,14])])
def spec_pzText.B7:List Nat:=[0,0,2,6,14,0,32,110,254,510,0,1024,3310,8190,16383,32767]
theorem spec_pzText.tab7:rtab .any (opsOf Tryz.f46 7)=spec_pzText.T7:=by kernel_rfl
theorem spec_pzText.bits7:waitsOk spec_pzText.T7.2 spec_pzText.B7=true:=by kernel_rfl
set_option maxHeartbeats 8000000 in
set_option maxRecDepth 100000 in
theorem spec_pzText.calls (k:Nat) (a0_0:Int) (A0_1:Option Addr) (c0_1:Nat) (l0_1:List (S51)) (r:ByteArray) (w:World) (hr0_1:Kd.C k51 w A0_1 l0_1.length l0_1) (hc0_1:l0_1.length≤c0_1) (h:spec_pzText.f k a0_0 l0_1=some r) :
    Calls Tryz.prog 46 #[.agg #[.int .i64 a0_0,.slice A0_1 l0_1.length c0_1]] w fun e w'=>e=.returned (.string r)∧Below w.heap.size w w':=by
 have hu26:=Tryz.underlying26;have hu51:=Tryz.underlying51;have HR0_1:=Aside0.mk hr0_1;have HC0_1:=Aside0.mk hc0_1;clear hr0_1 hc0_1;have HB:=qa (Below.refl w.heap.size w);have H:=h;unfold spec_pzText.f at H;clear h;replace H:=zB H;obtain ⟨t1,A2,H⟩:=H;replace H:=zSg' H;obtain ⟨c3,H⟩:=H;have c3b0:=eq_true c3;have c3b1:=decide_eq_true c3;(try have c3b2:(9223372036854775807<t1.size+1)=False:=eq_false (Nat.not_lt.2 c3));have H':=Aside0.mk H;clear H;go_enter Tryz.func46,Tryz.ntmps46
 go_wp2_with (first|(refine zX (N:=1) (cs:=#[.int .i64 a0_0,.slice A0_1 l0_1.length c0_1]) (t:=26) (h:=?_);intro gb1 hg _ hbox hb;have BK1:=qa hbox;have GE1:=qa (qz3:w.heap.size≤gb1);replace HB:=zs HB hb;clear hb hbox hg;have ⟨_,_,_,_⟩:=zC2 BK1.out)|(refine zL 70 (some 8) Tryz.func70 #[.int .i64 a0_0] (h:=?_);refine (spec_l1Num.calls k a0_0 t1 _ A2.out).mono ?_;rintro e _ ⟨rfl,hb⟩;refine ⟨_,rfl,?_⟩;replace BK1:=zBb BK1 hb;replace HB:=qa (below_step qz6 hb);clear hb;have ⟨_,_,_,_⟩:=zC2 BK1.out));go_loopg [3,13] k (fun kq v3 v13 w'=>∃(x3_1:ByteArray) (x13_1:Int),v3=.string x3_1∧v13=.int .i64 x13_1∧Aside0 (spec_pzText.l0 kq x3_1 l0_1 (l0_1.length:Int) x13_1=some r)∧Aside0 (kq≤k)∧Aside0 (w'.heap[gb1]? = some (.cells #[.int .i64 a0_0,(.slice A0_1 l0_1.length c0_1)] 26 (0,0)))∧Aside0 (Below w.heap.size w w'))
 case atStart=>exact ⟨(t1++(⟨#[58]⟩:ByteArray)),(0),qz23,qz23,H',⟨Nat.le_refl _⟩,⟨qz8⟩,⟨qz6⟩⟩
 case round=>
  clear H';obtain ⟨x3_1,x13_1,rfl,rfl,HA,HK1,BK1,HB⟩:=hrel
  cases gk with
  | zero=>exact absurd HA.out (by simp [spec_pzText.l0])
  | succ k1=>
   have H:=HA.out;clear HA;simp only [spec_pzText.l0] at H;replace H:=zD' H;rcases H with ⟨c8b0,H⟩|⟨c8b0,H⟩
   ·obtain rfl:=Option.some.inj H;go_wp2;go_ret;exact ⟨qz15,qz6⟩
   replace H:=zDg' H;obtain ⟨c9b0,H⟩:=H;replace H:=zDg' H;obtain ⟨c10b0,H⟩:=H;replace H:=zD' H;rcases H with ⟨c11b0,H⟩|⟨c11b0,H⟩
   ·replace H:=zB H;obtain ⟨t2,A29,H⟩:=H;replace H:=zSg' H;obtain ⟨c30,H⟩:=H;have c30b0:=eq_true c30;have c30b1:=decide_eq_true c30;(try have c30b2:(9223372036854775807<t2.size+1)=False:=eq_false (Nat.not_lt.2 c30));replace H:=zB H;obtain ⟨t3,A31,H⟩:=H;replace H:=zSg' H;obtain ⟨c32,H⟩:=H;have c32b0:=eq_true c32;have c32b1:=decide_eq_true c32;(try have c32b2:(9223372036854775807<(t2++(⟨#[46]⟩:ByteArray)).size+t3.size)=False:=eq_false (Nat.not_lt.2 c32));(try have c32b3:(9223372036854775807<t2.size+1+t3.size)=False:=eq_false (by have h_:=c32;simp only [ByteArray.size_append] at h_;have z0_:(⟨#[46]⟩:ByteArray).size=1:=rfl;omega));replace H:=zSg' H;obtain ⟨c33,H⟩:=H;have c33b0:=eq_true c33;have c33b1:=decide_eq_true c33;(try have c33b2:(9223372036854775807<((t2++(⟨#[46]⟩:ByteArray))++t3).size+1)=False:=eq_false (Nat.not_lt.2 c33))
    (try have c33b3:(9223372036854775807<t2.size+1+t3.size+1)=False:=eq_false (by have h_:=c33;simp only [ByteArray.size_append] at h_;have z0_:(⟨#[46]⟩:ByteArray).size=1:=rfl;omega));replace H:=zB H;obtain ⟨t4,A34,H⟩:=H;replace H:=zSg' H;obtain ⟨c35,H⟩:=H;have c35b0:=eq_true c35;have c35b1:=decide_eq_true c35;(try have c35b2:(9223372036854775807<(((t2++(⟨#[46]⟩:ByteArray))++t3)++(⟨#[46]⟩:ByteArray)).size+t4.size)=False:=eq_false (Nat.not_lt.2 c35));(try have c35b3:(9223372036854775807<t2.size+1+t3.size+1+t4.size)=False:=eq_false (by have h_:=c35;simp only [ByteArray.size_append] at h_;have z0_:(⟨#[46]⟩:ByteArray).size=1:=rfl;omega));replace H:=zSg' H;obtain ⟨c36,H⟩:=H;have c36b0:=eq_true c36;have c36b1:=decide_eq_true c36;(try have c36b2:(9223372036854775807<x3_1.size+((((t2++(⟨#[46]⟩:ByteArray))++t3)++(⟨#[46]⟩:ByteArray))++t4).size)=False:=eq_false (Nat.not_lt.2 c36))
    (try have c36b3:(9223372036854775807<x3_1.size+(t2.size+1+t3.size+1+t4.size))=False:=eq_false (by have h_:=c36;simp only [ByteArray.size_append] at h_;have z0_:(⟨#[46]⟩:ByteArray).size=1:=rfl;omega));have H':=Aside0.mk H;clear H;have p520:0≤(x13_1:Int):=of_decide_eq_true qz38;have q520:x13_1<(l0_1.length:Int):=of_decide_eq_true qz38;obtain ⟨ad520,e520,hx520_0,hx520_1,hx520_2⟩:=at_T51 HR0_1.out x13_1 p520 q520
    cases e520
    replace hx520_0:=(HB.out.cell (World.block_lt_of_cell? w _ hx520_0)).trans hx520_0;replace hx520_1:=(HB.out.cell (World.block_lt_of_cell? w _ hx520_1)).trans hx520_1;replace hx520_2:=(HB.out.cell (World.block_lt_of_cell? w _ hx520_2)).trans hx520_2;replace p520:=eq_true p520;replace q520:=eq_true q520
    (try go_wp2_with (first|(refine zX (N:=5) (cs:=#[.int .i64 0,.int .i64 0,.int .i64 0]) (t:=51) (h:=?_);intro gb2 hg w37 hbox hb;have BK2:=qa hbox;have GE2:=qa (qz5:w.heap.size≤gb2);replace HB:=qa (below_step qz6 hb);have NB1_2:=qa (qz81:gb1≠gb2);have NB2_1:=qa (qz82:gb2≠gb1);replace BK1:=zBb BK1 hb;clear hb hbox hg;have hnb38:=NB2_1.out;have hnc38:=NB1_2.out;have ⟨_,_,_,_,_,_⟩:=zC3 BK2.out)))
    have n0_:Aside0 ((((w37.setCell ⟨gb2,0,none⟩ (.int .i64 ((rd_T51 l0_1 x13_1).f0))).setCell ⟨gb2,1,none⟩ (.int .i64 ((rd_T51 l0_1 x13_1).f1))).setCell ⟨gb2,2,none⟩ (.int .i64 ((rd_T51 l0_1 x13_1).f2))).heap[gb1]? = some (.cells #[.int .i64 a0_0,.slice (some ad520) l0_1.length c0_1] 26 (0,0))):=⟨qz41⟩
    have n1_:Aside0 ((((w37.setCell ⟨gb2,0,none⟩ (.int .i64 ((rd_T51 l0_1 x13_1).f0))).setCell ⟨gb2,1,none⟩ (.int .i64 ((rd_T51 l0_1 x13_1).f1))).setCell ⟨gb2,2,none⟩ (.int .i64 ((rd_T51 l0_1 x13_1).f2))).heap[gb2]? = some (.cells #[.int .i64 ((rd_T51 l0_1 x13_1).f0),.int .i64 ((rd_T51 l0_1 x13_1).f1),.int .i64 ((rd_T51 l0_1 x13_1).f2)] 51 (0,0))):=⟨qz83⟩
    have n2_:Aside0 (Below w.heap.size w (((w37.setCell ⟨gb2,0,none⟩ (.int .i64 ((rd_T51 l0_1 x13_1).f0))).setCell ⟨gb2,1,none⟩ (.int .i64 ((rd_T51 l0_1 x13_1).f1))).setCell ⟨gb2,2,none⟩ (.int .i64 ((rd_T51 l0_1 x13_1).f2)))):=⟨qz11⟩;(try clear BK1);(try clear BK2);(try clear HB);generalize (((w37.setCell ⟨gb2,0,none⟩ (.int .i64 ((rd_T51 l0_1 x13_1).f0))).setCell ⟨gb2,1,none⟩ (.int .i64 ((rd_T51 l0_1 x13_1).f1))).setCell ⟨gb2,2,none⟩ (.int .i64 ((rd_T51 l0_1 x13_1).f2)))=w40 at n0_ n1_ n2_ ⊢;have BK1:=n0_;have BK2:=n1_;have HB:=n2_;clear n0_ n1_ n2_;replace BK1:=zBd BK1;replace BK2:=zBd BK2;replace HB:=zHd HB;refine start_ (n:=16) (S:=fun w'=>w'.cell? ⟨gb2,0,none⟩=some (.int .i64 ((rd_T51 l0_1 x13_1).f0))∧w'.cell? ⟨gb2,1,none⟩=some (.int .i64 ((rd_T51 l0_1 x13_1).f1))∧w'.cell? ⟨gb2,2,none⟩=some (.int .i64 ((rd_T51 l0_1 x13_1).f2))) (ds:=[]) (bq 0 0 0 16) qz2 rfl rfl qz84 (fun hHeld=>?_);refine with_tabW spec_pzText.tab7 spec_pzText.bits7 (fun HT_ HW_=>?_)
    generalize w40.drew=w41 at BK1 BK2 HB hHeld ⊢;refine zrp 0 22 (h:=?_);refine znp (h:=?_);refine zrp 5 27 (h:=?_);refine zrp 10 32 (h:=?_);refine zrt3 2 24 (h:=?_);refine zrt3 6 28 (h:=?_);refine zrt3 11 33 (h:=?_);refine zO (i:=3) (N:=some 25) (bq 4 26 3183 16) (h:=fun K hK=>?_);refine goes_ Tryz.func70 qz2 rfl #[.int .i64 ((rd_T51 l0_1 x13_1).f0)] (by rfl) rfl rfl qz60 ?_;refine (spec_l1Num.calls k1 ((rd_T51 l0_1 x13_1).f0) t2 _ A29.out).mono ?_;rintro e _ ⟨rfl,hb⟩;refine ⟨_,rfl,?_⟩;replace BK1:=zBb BK1 hb;replace BK2:=zBb BK2 hb;replace HB:=qa (below_step qz11 hb)
    (try clear hb);(try clear hb2);(try clear hk);(try clear hi);refine hK.out _ _ qz84 (fun hHeld=>?_);clear hK K;refine zW (h:=?_);refine znp (h:=?_);refine zO (i:=7) (N:=some 29) (bq 8 30 3327 16) (h:=fun K hK=>?_);refine goes_ Tryz.func70 qz2 rfl #[.int .i64 ((rd_T51 l0_1 x13_1).f1)] (by rfl) rfl rfl qz60 ?_;refine (spec_l1Num.calls k1 ((rd_T51 l0_1 x13_1).f1) t3 _ A31.out).mono ?_;rintro e _ ⟨rfl,hb⟩;refine ⟨_,rfl,?_⟩;replace BK1:=zBb BK1 hb;replace BK2:=zBb BK2 hb;replace HB:=qa (below_step qz11 hb)
    (try clear hb);(try clear hb2);(try clear hk);(try clear hi);refine hK.out _ _ qz84 (fun hHeld=>?_);clear hK K;refine zW (h:=?_);(iterate 2 refine znp (h:=?_));refine zO (i:=12) (N:=some 34) (bq 13 35 8191 16) (h:=fun K hK=>?_);refine goes_ Tryz.func70 qz2 rfl #[.int .i64 ((rd_T51 l0_1 x13_1).f2)] (by rfl) rfl rfl qz60 ?_;refine (spec_l1Num.calls k1 ((rd_T51 l0_1 x13_1).f2) t4 _ A34.out).mono ?_;rintro e _ ⟨rfl,hb⟩;refine ⟨_,rfl,?_⟩;replace BK1:=zBb BK1 hb;replace BK2:=zBb BK2 hb;replace HB:=qa (below_step qz11 hb)
    (try clear hb);(try clear hb2);(try clear hk);(try clear hi);refine hK.out _ _ qz84 (fun hHeld=>?_);clear hK K;refine zW (h:=?_);(iterate 2 refine znp (h:=?_));refine zrp 15 3 (h:=?_);refine done_ (done_of HT_.out qz2) ?_;(try go_wp2);go_roundg k1
    case measure=>have:=HK1.out;omega
    case rel=>exact ⟨(x3_1++((((t2++(⟨#[46]⟩:ByteArray))++t3)++(⟨#[46]⟩:ByteArray))++t4)),(wrap64 (x13_1+1)),qz23,qz23,H',⟨qz55⟩,⟨qz8⟩,⟨qz11⟩⟩
   replace H:=zSg' H;obtain ⟨c12,H⟩:=H;have c12b0:=eq_true c12;have c12b1:=decide_eq_true c12;(try have c12b2:(9223372036854775807<x3_1.size+1)=False:=eq_false (Nat.not_lt.2 c12));replace H:=zB H;obtain ⟨t5,A13,H⟩:=H;replace H:=zSg' H;obtain ⟨c14,H⟩:=H;have c14b0:=eq_true c14;have c14b1:=decide_eq_true c14;(try have c14b2:(9223372036854775807<t5.size+1)=False:=eq_false (Nat.not_lt.2 c14));replace H:=zB H;obtain ⟨t6,A15,H⟩:=H;replace H:=zSg' H;obtain ⟨c16,H⟩:=H;have c16b0:=eq_true c16;have c16b1:=decide_eq_true c16;(try have c16b2:(9223372036854775807<(t5++(⟨#[46]⟩:ByteArray)).size+t6.size)=False:=eq_false (Nat.not_lt.2 c16));(try have c16b3:(9223372036854775807<t5.size+1+t6.size)=False:=eq_false (by have h_:=c16;simp only [ByteArray.size_append] at h_;have z0_:(⟨#[46]⟩:ByteArray).size=1:=rfl;omega));replace H:=zSg' H
   obtain ⟨c17,H⟩:=H;have c17b0:=eq_true c17;have c17b1:=decide_eq_true c17;(try have c17b2:(9223372036854775807<((t5++(⟨#[46]⟩:ByteArray))++t6).size+1)=False:=eq_false (Nat.not_lt.2 c17));(try have c17b3:(9223372036854775807<t5.size+1+t6.size+1)=False:=eq_false (by have h_:=c17;simp only [ByteArray.size_append] at h_;have z0_:(⟨#[46]⟩:ByteArray).size=1:=rfl;omega));replace H:=zB H;obtain ⟨t7,A18,H⟩:=H;replace H:=zSg' H;obtain ⟨c19,H⟩:=H;have c19b0:=eq_true c19;have c19b1:=decide_eq_true c19;(try have c19b2:(9223372036854775807<(((t5++(⟨#[46]⟩:ByteArray))++t6)++(⟨#[46]⟩:ByteArray)).size+t7.size)=False:=eq_false (Nat.not_lt.2 c19));(try have c19b3:(9223372036854775807<t5.size+1+t6.size+1+t7.size)=False:=eq_false (by have h_:=c19;simp only [ByteArray.size_append] at h_;have z0_:(⟨#[46]⟩:ByteArray).size=1:=rfl;omega))
   replace H:=zSg' H;obtain ⟨c20,H⟩:=H;have c20b0:=eq_true c20;have c20b1:=decide_eq_true c20;(try have c20b2:(9223372036854775807<(x3_1++(⟨#[44]⟩:ByteArray)).size+((((t5++(⟨#[46]⟩:ByteArray))++t6)++(⟨#[46]⟩:ByteArray))++t7).size)=False:=eq_false (Nat.not_lt.2 c20));(try have c20b3:(9223372036854775807<x3_1.size+1+(t5.size+1+t6.size+1+t7.size))=False:=eq_false (by have h_:=c20;simp only [ByteArray.size_append] at h_;have z0_:(⟨#[44]⟩:ByteArray).size=1:=rfl;have z1_:(⟨#[46]⟩:ByteArray).size=1:=rfl;omega));have H':=Aside0.mk H;clear H;have p520:0≤(x13_1:Int):=of_decide_eq_true qz38;have q520:x13_1<(l0_1.length:Int):=of_decide_eq_true qz38;obtain ⟨ad520,e520,hx520_0,hx520_1,hx520_2⟩:=at_T51 HR0_1.out x13_1 p520 q520
   cases e520
   replace hx520_0:=(HB.out.cell (World.block_lt_of_cell? w _ hx520_0)).trans hx520_0;replace hx520_1:=(HB.out.cell (World.block_lt_of_cell? w _ hx520_1)).trans hx520_1;replace hx520_2:=(HB.out.cell (World.block_lt_of_cell? w _ hx520_2)).trans hx520_2;replace p520:=eq_true p520;replace q520:=eq_true q520
   (try go_wp2_with (first|(refine zX (N:=5) (cs:=#[.int .i64 0,.int .i64 0,.int .i64 0]) (t:=51) (h:=?_);intro gb2 hg w21 hbox hb;have BK2:=qa hbox;have GE2:=qa (qz5:w.heap.size≤gb2);replace HB:=qa (below_step qz6 hb);have NB1_2:=qa (qz81:gb1≠gb2);have NB2_1:=qa (qz82:gb2≠gb1);replace BK1:=zBb BK1 hb;clear hb hbox hg;have hnb22:=NB2_1.out;have hnc22:=NB1_2.out;have ⟨_,_,_,_,_,_⟩:=zC3 BK2.out)))
   have n0_:Aside0 ((((w21.setCell ⟨gb2,0,none⟩ (.int .i64 ((rd_T51 l0_1 x13_1).f0))).setCell ⟨gb2,1,none⟩ (.int .i64 ((rd_T51 l0_1 x13_1).f1))).setCell ⟨gb2,2,none⟩ (.int .i64 ((rd_T51 l0_1 x13_1).f2))).heap[gb1]? = some (.cells #[.int .i64 a0_0,.slice (some ad520) l0_1.length c0_1] 26 (0,0))):=⟨qz41⟩
   have n1_:Aside0 ((((w21.setCell ⟨gb2,0,none⟩ (.int .i64 ((rd_T51 l0_1 x13_1).f0))).setCell ⟨gb2,1,none⟩ (.int .i64 ((rd_T51 l0_1 x13_1).f1))).setCell ⟨gb2,2,none⟩ (.int .i64 ((rd_T51 l0_1 x13_1).f2))).heap[gb2]? = some (.cells #[.int .i64 ((rd_T51 l0_1 x13_1).f0),.int .i64 ((rd_T51 l0_1 x13_1).f1),.int .i64 ((rd_T51 l0_1 x13_1).f2)] 51 (0,0))):=⟨qz83⟩
   have n2_:Aside0 (Below w.heap.size w (((w21.setCell ⟨gb2,0,none⟩ (.int .i64 ((rd_T51 l0_1 x13_1).f0))).setCell ⟨gb2,1,none⟩ (.int .i64 ((rd_T51 l0_1 x13_1).f1))).setCell ⟨gb2,2,none⟩ (.int .i64 ((rd_T51 l0_1 x13_1).f2)))):=⟨qz11⟩;(try clear BK1);(try clear BK2);(try clear HB);generalize (((w21.setCell ⟨gb2,0,none⟩ (.int .i64 ((rd_T51 l0_1 x13_1).f0))).setCell ⟨gb2,1,none⟩ (.int .i64 ((rd_T51 l0_1 x13_1).f1))).setCell ⟨gb2,2,none⟩ (.int .i64 ((rd_T51 l0_1 x13_1).f2)))=w24 at n0_ n1_ n2_ ⊢;have BK1:=n0_;have BK2:=n1_;have HB:=n2_;clear n0_ n1_ n2_;replace BK1:=zBd BK1;replace BK2:=zBd BK2;replace HB:=zHd HB;refine start_ (n:=16) (S:=fun w'=>w'.cell? ⟨gb2,0,none⟩=some (.int .i64 ((rd_T51 l0_1 x13_1).f0))∧w'.cell? ⟨gb2,1,none⟩=some (.int .i64 ((rd_T51 l0_1 x13_1).f1))∧w'.cell? ⟨gb2,2,none⟩=some (.int .i64 ((rd_T51 l0_1 x13_1).f2))) (ds:=[]) (bq 0 0 0 16) qz2 rfl rfl qz84 (fun hHeld=>?_);refine with_tabW spec_pzText.tab7 spec_pzText.bits7 (fun HT_ HW_=>?_)
   generalize w24.drew=w25 at BK1 BK2 HB hHeld ⊢;refine zrp 0 22 (h:=?_);refine znp (h:=?_);refine zrp 5 27 (h:=?_);refine zrp 10 32 (h:=?_);refine zrt3 2 24 (h:=?_);refine zrt3 6 28 (h:=?_);refine zrt3 11 33 (h:=?_);refine zO (i:=3) (N:=some 25) (bq 4 26 3183 16) (h:=fun K hK=>?_);refine goes_ Tryz.func70 qz2 rfl #[.int .i64 ((rd_T51 l0_1 x13_1).f0)] (by rfl) rfl rfl qz60 ?_;refine (spec_l1Num.calls k1 ((rd_T51 l0_1 x13_1).f0) t5 _ A13.out).mono ?_;rintro e _ ⟨rfl,hb⟩;refine ⟨_,rfl,?_⟩;replace BK1:=zBb BK1 hb;replace BK2:=zBb BK2 hb;replace HB:=qa (below_step qz11 hb)
   (try clear hb);(try clear hb2);(try clear hk);(try clear hi);refine hK.out _ _ qz84 (fun hHeld=>?_);clear hK K;refine zW (h:=?_);refine znp (h:=?_);refine zO (i:=7) (N:=some 29) (bq 8 30 3327 16) (h:=fun K hK=>?_);refine goes_ Tryz.func70 qz2 rfl #[.int .i64 ((rd_T51 l0_1 x13_1).f1)] (by rfl) rfl rfl qz60 ?_;refine (spec_l1Num.calls k1 ((rd_T51 l0_1 x13_1).f1) t6 _ A15.out).mono ?_;rintro e _ ⟨rfl,hb⟩;refine ⟨_,rfl,?_⟩;replace BK1:=zBb BK1 hb;replace BK2:=zBb BK2 hb;replace HB:=qa (below_step qz11 hb)
   (try clear hb);(try clear hb2);(try clear hk);(try clear hi);refine hK.out _ _ qz84 (fun hHeld=>?_);clear hK K;refine zW (h:=?_);(iterate 2 refine znp (h:=?_));refine zO (i:=12) (N:=some 34) (bq 13 35 8191 16) (h:=fun K hK=>?_);refine goes_ Tryz.func70 qz2 rfl #[.int .i64 ((rd_T51 l0_1 x13_1).f2)] (by rfl) rfl rfl qz60 ?_;refine (spec_l1Num.calls k1 ((rd_T51 l0_1 x13_1).f2) t7 _ A18.out).mono ?_;rintro e _ ⟨rfl,hb⟩;refine ⟨_,rfl,?_⟩;replace BK1:=zBb BK1 hb;replace BK2:=zBb BK2 hb;replace HB:=qa (below_step qz11 hb)
   (try clear hb);(try clear hb2);(try clear hk);(try clear hi);refine hK.out _ _ qz84 (fun hHeld=>?_);clear hK K;refine zW (h:=?_);(iterate 2 refine znp (h:=?_));refine zrp 15 3 (h:=?_);refine done_ (done_of HT_.out qz2) ?_;(try go_wp2);go_roundg k1
   case measure=>have:=HK1.out;omega
   case rel=>exact ⟨((x3_1++(⟨#[44]⟩:ByteArray))++((((t5++(⟨#[46]⟩:ByteArray))++t6)++(⟨#[46]⟩:ByteArray))++t7)),(wrap64 (x13_1+1)),qz23,qz23,H',⟨qz55⟩,⟨qz8⟩,⟨qz11⟩⟩
def spec_PuzzleText.f (k:Nat) (a0_0:Int) (l0_1:List (S51)):Option (ByteArray×Bool):=(spec_pzGood.f k a0_0 l0_1).bind fun t529=>(if t529=true then ((spec_pzText.f k a0_0 l0_1).bind fun t530=>(some (t530,true))) else (some ((⟨#[]⟩:ByteArray),false)))
theorem spec_PuzzleText.mono:∀a0 a1 k,LeO (spec_PuzzleText.f k a0 a1) (spec_PuzzleText.f (k+1) a0 a1):=by
  intro a0 a1 k
  unfold spec_PuzzleText.f
  repeat' first
   | with_reducible first|exact spec_pzGood.mono _ _ _|exact spec_pzText.mono _ _ _|exact LeO.refl _|exact LeO.none _|refine LeO.ite ?_ ?_|refine LeO.bind ?_ (fun _=>?_)
set_option maxHeartbeats 8000000 in
set_option maxRecDepth 100000 in
theorem spec_PuzzleText.calls (k:Nat) (a0_0:Int) (A0_1:Option Addr) (c0_1:Nat) (l0_1:List (S51)) (r1:ByteArray) (r2:Bool) (w:World) (hr0_1:Kd.C k51 w A0_1 l0_1.length l0_1) (hc0_1:l0_1.length≤c0_1) (h:spec_PuzzleText.f k a0_0 l0_1=some (r1,r2)) :
    Calls Tryz.prog 23 #[.agg #[.int .i64 a0_0,.slice A0_1 l0_1.length c0_1]] w fun e w'=>e=.returned (.tuple #[.string r1,.bool r2])∧Below w.heap.size w w':=by
 have hu26:=Tryz.underlying26;have HR0_1:=Aside0.mk hr0_1;have HC0_1:=Aside0.mk hc0_1;clear hr0_1 hc0_1;have HB:=qa (Below.refl w.heap.size w);have H:=h;unfold spec_PuzzleText.f at H;clear h;replace H:=zB H;obtain ⟨t1,A2,H⟩:=H;replace H:=zI' H;rcases H with ⟨rfl,H⟩|⟨rfl,H⟩
 ·(try dsimp only at H);simp only [Option.some.injEq,Prod.mk.injEq] at H;obtain ⟨rfl,rfl⟩:=H;go_enter Tryz.func23,Tryz.ntmps23
  go_wp2_with (first|(refine zX (N:=1) (cs:=#[.int .i64 a0_0,.slice A0_1 l0_1.length c0_1]) (t:=26) (h:=?_);intro gb1 hg _ hbox hb;have BK1:=qa hbox;have GE1:=qa (qz3:w.heap.size≤gb1);replace HB:=zs HB hb;clear hb hbox hg;have ⟨_,_,_,_⟩:=zC2 BK1.out)|(refine zL 38 (some 5) Tryz.func38 #[.agg #[.int .i64 a0_0,.slice A0_1 l0_1.length c0_1]] (h:=?_);refine (spec_pzGood.calls k a0_0 _ _ l0_1 false _ qz33 HC0_1.out A2.out).mono ?_;rintro e _ ⟨rfl,hb⟩;refine ⟨_,rfl,?_⟩;replace BK1:=zBb BK1 hb;replace HB:=qa (below_step qz6 hb);clear hb))
  go_ret2;exact ⟨qz15,qz6⟩
 (try dsimp only at H);replace H:=zB H;obtain ⟨t2,A4,H⟩:=H;simp only [Option.some.injEq,Prod.mk.injEq] at H;obtain ⟨rfl,rfl⟩:=H;go_enter Tryz.func23,Tryz.ntmps23
 go_wp2_with (first|(refine zX (N:=1) (cs:=#[.int .i64 a0_0,.slice A0_1 l0_1.length c0_1]) (t:=26) (h:=?_);intro gb1 hg _ hbox hb;have BK1:=qa hbox;have GE1:=qa (qz3:w.heap.size≤gb1);replace HB:=zs HB hb;clear hb hbox hg;have ⟨_,_,_,_⟩:=zC2 BK1.out)|(refine zL 38 (some 5) Tryz.func38 #[.agg #[.int .i64 a0_0,.slice A0_1 l0_1.length c0_1]] (h:=?_);refine (spec_pzGood.calls k a0_0 _ _ l0_1 true _ qz33 HC0_1.out A2.out).mono ?_;rintro e _ ⟨rfl,hb⟩;refine ⟨_,rfl,?_⟩;replace BK1:=zBb BK1 hb;replace HB:=qa (below_step qz6 hb);clear hb;have ⟨_,_,_,_⟩:=zC2 BK1.out)|(refine zL 46 (some 8) Tryz.func46 #[.agg #[.int .i64 a0_0,.slice A0_1 l0_1.length c0_1]] (h:=?_);refine (spec_pzText.calls k a0_0 _ _ l0_1 t2 _ qz33 HC0_1.out A4.out).mono ?_;rintro e _ ⟨rfl,hb⟩;refine ⟨_,rfl,?_⟩;replace BK1:=zBb BK1 hb;replace HB:=qa (below_step qz6 hb);clear hb))
 go_ret2;exact ⟨qz15,qz6⟩
def laws_uChains.l0:Nat→List (S34)→List (S34)→Int→Int→Option (Bool)
  | 0,_,_,_,_=>none
  | k+1,x0,x1,x12,x13=>if x13<x12 then (if 0≤x13 then (if x13<(x0.length:Int) then (if x13<(x1.length:Int) then (if (!(((rd_T34 x0 x13).f0)==((rd_T34 x1 x13).f0)) || (!(((rd_T34 x0 x13).f1)==((rd_T34 x1 x13).f1)) || (!(((rd_T34 x0 x13).f2)==((rd_T34 x1 x13).f2)))))=true then (some false) else (laws_uChains.l0 k x0 x1 x12 (wrap64 (x13+1)))) else (none)) else (none)) else (none)) else (some true)
def laws_uChains.f (k:Nat) (l0:List (S34)) (l1:List (S34)):Option (Bool):=if (l0.length:Int)=(l1.length:Int) then (laws_uChains.l0 k l0 l1 (l0.length:Int) 0) else (some false)
theorem laws_uChains.mono_l:∀k,(∀y0 y1 y2 y3,LeO (laws_uChains.l0 k y0 y1 y2 y3) (laws_uChains.l0 (k+1) y0 y1 y2 y3))
  | 0=>fun _ _ _ _ r h=>by simp [laws_uChains.l0] at h
  | k+1=>by
    have ih0:=laws_uChains.mono_l k
    · intro y0 y1 y2 y3
      unfold laws_uChains.l0
      repeat' first
   | with_reducible first|exact ih0 _ _ _ _|exact LeO.refl _|exact LeO.none _|refine LeO.ite ?_ ?_|refine LeO.bind ?_ (fun _=>?_)
theorem laws_uChains.mono:∀a0 a1 k,LeO (laws_uChains.f k a0 a1) (laws_uChains.f (k+1) a0 a1):=by
  intro a0 a1 k
  have ih0:=laws_uChains.mono_l k
  unfold laws_uChains.f
  repeat' first
   | with_reducible first|exact ih0 _ _ _ _|exact LeO.refl _|exact LeO.none _|refine LeO.ite ?_ ?_|refine LeO.bind ?_ (fun _=>?_)
set_option maxHeartbeats 8000000 in
set_option maxRecDepth 100000 in
theorem laws_uChains.calls (k:Nat) (A0:Option Addr) (c0:Nat) (l0:List (S34)) (A1:Option Addr) (c1:Nat) (l1:List (S34)) (r:Bool) (w:World) (hr0:Kd.C k34 w A0 l0.length l0) (hc0:l0.length≤c0) (hr1:Kd.C k34 w A1 l1.length l1) (hc1:l1.length≤c1) (h:laws_uChains.f k l0 l1=some r) :
    Calls Tryz.prog 24 #[.slice A0 l0.length c0,.slice A1 l1.length c1] w fun e w'=>e=.returned (.bool r)∧Drawn0 w w':=by
 have hu34:=Tryz.underlying34;have HR0:=Aside0.mk hr0;have HC0:=Aside0.mk hc0;clear hr0 hc0;have HR1:=Aside0.mk hr1;have HC1:=Aside0.mk hc1;clear hr1 hc1;have H:=h;unfold laws_uChains.f at H;clear h;replace H:=zS' H;rcases H with ⟨c3,H⟩|⟨c3,H⟩
 ·have ⟨c3b0,c3b1⟩:=zNe c3;have c3b2:(l0.length==l1.length)=false:=by first|simpa using c3|(simp at c3 ⊢;omega)
  obtain rfl:=Option.some.inj H;go_enter Tryz.func24,Tryz.ntmps24;go_wp2;(repeat (go_quiet (fail);try go_wp2));go_ret;exact ⟨qz23,qz85⟩
 have ⟨c3b0,c3b1⟩:=zEq c3;have c3b2:(l0.length==l1.length)=true:=by first|simpa using c3|(simp at c3 ⊢;omega)
 clear c3;have H':=Aside0.mk H;clear H;go_enter Tryz.func24,Tryz.ntmps24;go_wp2;(repeat (go_quiet (fail);try go_wp2));go_loopg [13] k (fun kq v13 w'=>∃(x13_1:Int),v13=.int .i64 x13_1∧Aside0 (laws_uChains.l0 kq l0 l1 (l0.length:Int) x13_1=some r)∧Aside0 (kq≤k)∧Drawn0 w w')
 case atStart=>exact ⟨(0),qz23,H',⟨Nat.le_refl _⟩,qz85⟩
 case round=>
  clear H';obtain ⟨x13_1,rfl,HA,HK1,⟨m1,rfl⟩⟩:=hrel
  cases gk with
  | zero=>exact absurd HA.out (by simp [laws_uChains.l0])
  | succ k1=>
   have H:=HA.out;clear HA;simp only [laws_uChains.l0] at H;replace H:=zD' H;rcases H with ⟨c4b0,H⟩|⟨c4b0,H⟩
   ·obtain rfl:=Option.some.inj H;go_wp2;(repeat (go_quiet (fail);try go_wp2));go_ret;exact ⟨qz23,qz85⟩
   replace H:=zDg' H;obtain ⟨c5b0,H⟩:=H;replace H:=zDg' H;obtain ⟨c6b0,H⟩:=H;replace H:=zDg' H;obtain ⟨c7b0,H⟩:=H;replace H:=zS H;rcases H with ⟨c8,H⟩|⟨c8,H⟩
   ·have c8b0:(!(((rd_T34 l0 x13_1).f0)==((rd_T34 l1 x13_1).f0)) || (!(((rd_T34 l0 x13_1).f1)==((rd_T34 l1 x13_1).f1)) || (!(((rd_T34 l0 x13_1).f2)==((rd_T34 l1 x13_1).f2)))))=true:=c8;clear c8;obtain rfl:=Option.some.inj H;have p531:0≤(x13_1:Int):=of_decide_eq_true qz38;have q531:x13_1<(l0.length:Int):=of_decide_eq_true qz38;obtain ⟨ad531,e531,hx531_0,hx531_1,hx531_2⟩:=at_T34 HR0.out x13_1 p531 q531
    cases e531
    replace p531:=eq_true p531;replace q531:=eq_true q531;have p532:0≤(x13_1:Int):=of_decide_eq_true qz38;have q532:x13_1<(l1.length:Int):=of_decide_eq_true qz38;obtain ⟨ad532,e532,hx532_0,hx532_1,hx532_2⟩:=at_T34 HR1.out x13_1 p532 q532
    cases e532
    replace p532:=eq_true p532;replace q532:=eq_true q532;go_wp2;(repeat (go_quiet (fail);try go_wp2));go_ret;exact ⟨qz23,qz85⟩
   have c8b0:(!(((rd_T34 l0 x13_1).f0)==((rd_T34 l1 x13_1).f0)) || (!(((rd_T34 l0 x13_1).f1)==((rd_T34 l1 x13_1).f1)) || (!(((rd_T34 l0 x13_1).f2)==((rd_T34 l1 x13_1).f2)))))=false:=by simpa using c8
   clear c8;have H':=Aside0.mk H;clear H;have p531:0≤(x13_1:Int):=of_decide_eq_true qz38;have q531:x13_1<(l0.length:Int):=of_decide_eq_true qz38;obtain ⟨ad531,e531,hx531_0,hx531_1,hx531_2⟩:=at_T34 HR0.out x13_1 p531 q531
   cases e531
   replace p531:=eq_true p531;replace q531:=eq_true q531;have p532:0≤(x13_1:Int):=of_decide_eq_true qz38;have q532:x13_1<(l1.length:Int):=of_decide_eq_true qz38;obtain ⟨ad532,e532,hx532_0,hx532_1,hx532_2⟩:=at_T34 HR1.out x13_1 p532 q532
   cases e532
   replace p532:=eq_true p532;replace q532:=eq_true q532;go_wp2;(repeat (go_quiet (fail);try go_wp2));go_roundg k1
   case measure=>have:=HK1.out;omega
   case rel=>exact ⟨(wrap64 (x13_1+1)),qz23,H',⟨qz55⟩,qz85⟩
end Go.Proofs.YtdphjeiccokhnaaGreatDoor.QFnChainsGuessed
