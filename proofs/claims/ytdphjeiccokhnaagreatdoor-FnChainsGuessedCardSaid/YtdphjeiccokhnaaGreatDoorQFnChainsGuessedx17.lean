/- The functions that a law reaches, as plain Lean functions, and their walks. Written by a program of this session, turned out of the kit's print. Conditions: those that each theorem names. -/
import Derived.Test.YtdphjeiccokhnaaGreatDoorShelf
import Derived.Test.YtdphjeiccokhnaaGreatDoorLibW
import Derived.Test.YtdphjeiccokhnaaGreatDoorMac
import Derived.Test.YtdphjeiccokhnaaGreatDoorQFnChainsGuessedx0
import Derived.Test.YtdphjeiccokhnaaGreatDoorQFnChainsGuessedx11
namespace Go.Proofs.YtdphjeiccokhnaaGreatDoor.QFnChainsGuessed
open Go.RowKit Go.Proofs.YtdphjeiccokhnaaGreatDoorW.PrintWords Go.Proofs.YtdphjeiccokhnaaGreatDoorW.PrintLast Go.Proofs.YtdphjeiccokhnaaGreatDoorW.PrintMore Go.Proofs.YtdphjeiccokhnaaGreatDoor.Mac
attribute [local go_sem] max2_int min2_int max_two min_two max_three min_three max_four min_four
attribute [local go_sem] Go.Proofs.YtdphjeiccokhnaaGreatDoor.Kit.isSome_setCell
set_option linter.unusedVariables false
set_option linter.unusedSimpArgs false
mutual
def spec_BestClue.j0:Nat→Bool→Int→List (S51)→Option (Int×Bool)
  | 0,_,_,_=>none
  | k+1,x16,x482000,x482001=>if x16=true then (some (0,false)) else (spec_BestClue.l0 k 0 0 (x482001.length:Int) 0 x482000 x482001)
def spec_BestClue.l0:Nat→Int→Int→Int→Int→Int→List (S51)→Option (Int×Bool)
  | 0,_,_,_,_,_,_=>none
  | k+1,x4,x5,x19,x20,x482000,x482001=>if x20<x19 then (if 0≤x20 then (if x20≤(wrap64 (x20+1)) then (if (wrap64 (x20+1))≤(x482001.length:Int) then ((spec_pzAll.f k x482000 ((x482001.take ((wrap64 (x20+1)):Int).toNat).drop (x20:Int).toNat)).bind fun t487=>(if x20=0 then (spec_BestClue.l0 k x20 (t487.length:Int) x19 (wrap64 (x20+1)) x482000 x482001) else (if (t487.length:Int)<x5 then (spec_BestClue.l0 k x20 (t487.length:Int) x19 (wrap64 (x20+1)) x482000 x482001) else (spec_BestClue.l0 k x4 x5 x19 (wrap64 (x20+1)) x482000 x482001)))) else (none)) else (none)) else (none)) else (some (x4,true))
end
def spec_BestClue.f (k:Nat) (a0_0:Int) (l0_1:List (S51)):Option (Int×Bool):=(spec_pzGood.f k a0_0 l0_1).bind fun t482=>(if t482=true then (spec_BestClue.j0 k ((l0_1.length:Int)==0) a0_0 l0_1) else (spec_BestClue.j0 k true a0_0 l0_1))
theorem spec_BestClue.mono_l:∀k,(∀y0 y1 y2,LeO (spec_BestClue.j0 k y0 y1 y2) (spec_BestClue.j0 (k+1) y0 y1 y2))∧(∀y0 y1 y2 y3 y4 y5,LeO (spec_BestClue.l0 k y0 y1 y2 y3 y4 y5) (spec_BestClue.l0 (k+1) y0 y1 y2 y3 y4 y5))
  | 0=>by (refine ⟨?_,?_⟩ <;> intros);all_goals (first|unfold spec_BestClue.j0|unfold spec_BestClue.l0);all_goals exact LeO.none _
  | k+1=>by
   obtain ⟨ih0,ih1⟩:=spec_BestClue.mono_l k
   (refine ⟨?_,?_⟩ <;> intros)
   all_goals (first|unfold spec_BestClue.j0|unfold spec_BestClue.l0)
   all_goals repeat' first
    | with_reducible first|exact ih0 _ _ _|exact ih1 _ _ _ _ _ _|exact spec_pzAll.mono _ _ _|exact spec_pzGood.mono _ _ _|exact LeO.refl _|exact LeO.none _|refine LeO.ite ?_ ?_|refine LeO.bind ?_ (fun _=>?_)
theorem spec_BestClue.mono:∀a0 a1 k,LeO (spec_BestClue.f k a0 a1) (spec_BestClue.f (k+1) a0 a1):=by
  intro a0 a1 k
  obtain ⟨ih0,ih1⟩:=spec_BestClue.mono_l k
  unfold spec_BestClue.f
  repeat' first
   | with_reducible first|exact ih0 _ _ _|exact ih1 _ _ _ _ _ _|exact spec_pzAll.mono _ _ _|exact spec_pzGood.mono _ _ _|exact LeO.refl _|exact LeO.none _|refine LeO.ite ?_ ?_|refine LeO.bind ?_ (fun _=>?_)
def spec_BestClue.T7:Bool×List (List Nat×List Nat):=(true,[([],[]),([0],[0]),([],[]),([2],[2]),([],[]),([],[]),([5],[5]),([3,4,6],[3,4,6]),([1,7],[1,7]),([8],[8]),([9,8,0,1,2,3,4,5,6,7,8,9],[9])])
def spec_BestClue.B7:List Nat:=[0,1,0,4,0,0,32,124,255,511,1023]
theorem spec_BestClue.tab7:rtab .any (opsOf Tryz.f21 7)=spec_BestClue.T7:=by kernel_rfl
theorem spec_BestClue.bits7:waitsOk spec_BestClue.T7.2 spec_BestClue.B7=true:=by kernel_rfl
set_option maxHeartbeats 8000000 in
set_option maxRecDepth 100000 in
theorem spec_BestClue.calls (k:Nat) (a0_0:Int) (A0_1:Option Addr) (c0_1:Nat) (l0_1:List (S51)) (r1:Int) (r2:Bool) (w:World) (hr0_1:Kd.C k51 w A0_1 l0_1.length l0_1) (hc0_1:l0_1.length≤c0_1) (h:spec_BestClue.f k a0_0 l0_1=some (r1,r2)) :
    Calls Tryz.prog 21 #[.agg #[.int .i64 a0_0,.slice A0_1 l0_1.length c0_1]] w fun e w'=>e=.returned (.tuple #[.int .i64 r1,.bool r2])∧Below w.heap.size w w':=by
 have hu26:=Tryz.underlying26;have HR0_1:=Aside0.mk hr0_1;have HC0_1:=Aside0.mk hc0_1;clear hr0_1 hc0_1;have HB:=qa (Below.refl w.heap.size w);have H:=h;unfold spec_BestClue.f at H;clear h;have HC2:=Aside0.mk H;clear H;go_enter Tryz.func21,Tryz.ntmps21
 go_upto_region 1 with (first|((with_reducible refine gate_dst (N:=1) rfl ?_);(try (refine gate_guard (by rfl) ?_;dsimp only));refine box_event ?hg (N:=1) ?hd (cs:=#[.int .i64 a0_0,.slice A0_1 l0_1.length c0_1]) (t:=26) ?hr ?_;(case hd=>rfl);(case hg=>rfl);(case hr=>exact qz37);intro gb1 hg _ hbox hb;have BK1:=qa hbox;have GE1:=qa (qz3:w.heap.size≤gb1);replace HB:=zs HB hb;clear hb hbox hg));(try simp only [Act.put,List.setIfInBounds_toArray,List.set_cons_zero,List.set_cons_succ]);go_cut [16] (fun v16 wc=>∃(kq:Nat) (x16_1:Bool),v16=.bool x16_1∧Aside0 (spec_BestClue.j0 kq x16_1 a0_0 l0_1=some (r1,r2))∧Aside0 (kq≤k)∧Aside0 (wc.heap[gb1]? = some (.cells #[.int .i64 a0_0,(.slice A0_1 l0_1.length c0_1)] 26 (0,0)))∧Aside0 (Below w.heap.size w wc))
 case first=>
  have H:=HC2.out;clear HC2;replace H:=zB H;obtain ⟨t1,A4,H⟩:=H;replace H:=zI H;rcases H with ⟨rfl,H⟩|⟨rfl,H⟩
  ·(try dsimp only at H);have H':=Aside0.mk H;clear H;have ⟨_,_,_,_⟩:=zC2 BK1.out
   go_wp2_with (first|(refine zL 38 (some 9) Tryz.func38 #[.agg #[.int .i64 a0_0,.slice A0_1 l0_1.length c0_1]] (h:=?_);refine (spec_pzGood.calls k a0_0 _ _ l0_1 true _ qz33 HC0_1.out A4.out).mono ?_;rintro e _ ⟨rfl,hb⟩;refine ⟨_,rfl,?_⟩;replace BK1:=zBb BK1 hb;replace HB:=qa (below_step qz6 hb);clear hb;have ⟨_,_,_,_⟩:=zC2 BK1.out));go_meet
   case rel=>exact ⟨_,(((l0_1.length:Int)==0)),qz23,H',⟨qz35⟩,⟨qz8⟩,⟨qz6⟩⟩
  (try dsimp only at H);have H':=Aside0.mk H;clear H;have ⟨_,_,_,_⟩:=zC2 BK1.out
  go_wp2_with (first|(refine zL 38 (some 9) Tryz.func38 #[.agg #[.int .i64 a0_0,.slice A0_1 l0_1.length c0_1]] (h:=?_);refine (spec_pzGood.calls k a0_0 _ _ l0_1 false _ qz33 HC0_1.out A4.out).mono ?_;rintro e _ ⟨rfl,hb⟩;refine ⟨_,rfl,?_⟩;replace BK1:=zBb BK1 hb;replace HB:=qa (below_step qz6 hb);clear hb));go_meet
  case rel=>exact ⟨_,(true),qz23,H',⟨qz35⟩,⟨qz8⟩,⟨qz6⟩⟩
 case rest=>
  clear HC2;obtain ⟨kq,x16_1,rfl,HA,HJ1,BK1,HB⟩:=hcut
  cases kq with
  | zero=>exact absurd HA.out (by simp [spec_BestClue.j0])
  | succ kj1=>
   have H:=HA.out;clear HA;simp only [spec_BestClue.j0] at H;replace H:=zI H;rcases H with ⟨rfl,H⟩|⟨rfl,H⟩
   ·(try dsimp only at H);simp only [Option.some.injEq,Prod.mk.injEq] at H;obtain ⟨rfl,rfl⟩:=H;go_wp2;go_ret2;exact ⟨qz15,qz6⟩
   (try dsimp only at H);have H':=Aside0.mk H;clear H;have ⟨_,_,_,_⟩:=zC2 BK1.out;go_wp2;go_loopg [4,5,20] kj1 (fun kq v4 v5 v20 w'=>∃(x4_2:Int) (x5_2:Int) (x20_2:Int),v4=.int .i64 x4_2∧v5=.int .i64 x5_2∧v20=.int .i64 x20_2∧Aside0 (spec_BestClue.l0 kq x4_2 x5_2 (l0_1.length:Int) x20_2 a0_0 l0_1=some (r1,r2))∧Aside0 (kq≤kj1)∧Aside0 (w'.heap[gb1]? = some (.cells #[.int .i64 a0_0,(.slice A0_1 l0_1.length c0_1)] 26 (0,0)))∧Aside0 (Below w.heap.size w w'))
   case atStart=>exact ⟨(0),(0),(0),qz23,qz23,qz23,H',⟨Nat.le_refl _⟩,⟨qz8⟩,⟨qz6⟩⟩
   case round=>
    clear H';obtain ⟨x4_2,x5_2,x20_2,rfl,rfl,rfl,HA,HK2,BK1,HB⟩:=hrel
    cases gk with
    | zero=>exact absurd HA.out (by simp [spec_BestClue.l0])
    | succ k2=>
     have H:=HA.out;clear HA;simp only [spec_BestClue.l0] at H;replace H:=zD' H;rcases H with ⟨c13b0,H⟩|⟨c13b0,H⟩
     ·simp only [Option.some.injEq,Prod.mk.injEq] at H;obtain ⟨rfl,rfl⟩:=H;go_wp2;go_ret2;exact ⟨qz15,qz6⟩
     replace H:=zEg' H;obtain ⟨c14,c14b0,c14b1,H⟩:=H;clear c14;replace H:=zEg' H;obtain ⟨c15,c15b0,c15b1,H⟩:=H;replace H:=zEg' H;obtain ⟨c16,c16b0,c16b1,H⟩:=H;obtain ⟨y1,hy1⟩:∃y_:List (S51),y_=((l0_1.take ((wrap64 (x20_2+1)):Int).toNat).drop (x20_2:Int).toNat):=⟨_,rfl⟩
     replace H:((spec_pzAll.f k2 a0_0 y1).bind fun t2=>(if x20_2=0 then (spec_BestClue.l0 k2 x20_2 (t2.length:Int) (l0_1.length:Int) (wrap64 (x20_2+1)) a0_0 l0_1) else (if (t2.length:Int)<x5_2 then (spec_BestClue.l0 k2 x20_2 (t2.length:Int) (l0_1.length:Int) (wrap64 (x20_2+1)) a0_0 l0_1) else (spec_BestClue.l0 k2 x4_2 x5_2 (l0_1.length:Int) (wrap64 (x20_2+1)) a0_0 l0_1))))=some (r1,r2):=by first|(rw [hy1];with_reducible exact H)|(have H2_:=(Option.bind_some _ _).symm.trans H;rw [hy1];with_reducible exact H2_)|(have H2_:=(Option.bind_some _ _).symm.trans H;with_reducible exact H2_)|with_reducible exact H|(rw [hy1];exact H)|exact H
     have Ny1:=Aside0.mk hy1;clear hy1;replace H:=zB H;obtain ⟨t2,A17,H⟩:=H;replace H:=zS H;rcases H with ⟨c18,H⟩|⟨c18,H⟩
     ·have ⟨c18b0,c18b1⟩:=zEq c18;clear c18;have H':=Aside0.mk H;clear H;(try go_wp2);replace BK1:=zBd BK1;replace HB:=zHd HB;have q20:((wrap64 (x20_2+1)):Int)≤((l0_1.length:Int):Int):=of_decide_eq_true qz38;obtain ⟨i020,hi020,_,hsz20,_⟩:=info_parts info51;have hroom20:l0_1.length≤c0_1:=HC0_1.out;have hC20:Kd.C k51 _ A0_1 l0_1.length l0_1:=HR0_1.out;have ql20:(x20_2:Int)≤((wrap64 (x20_2+1)):Int):=of_decide_eq_true qz38;have q020:(0:Int)≤(x20_2:Int):=of_decide_eq_true qz38;have hcut20:=cut_mid (P:=Tryz.prog) 24 51 .i64 .i64 Tryz.underlying24 hi020 3 hsz20 A0_1 l0_1.length c0_1 x20_2 (wrap64 (x20_2+1)) q020 ql20 q20 hroom20;have hr20:=Kd.C_mid (lo:=(x20_2:Int).toNat) (hi:=((wrap64 (x20_2+1)):Int).toNat) (c:=c0_1) hC20 (by omega) (by omega) hroom20
      obtain ⟨A20,hA20⟩:∃A1,A1=(if c0_1=(x20_2:Int).toNat then A0_1 else (A0_1:Option Addr).map (·.add ((x20_2:Int).toNat*3))):=⟨_,rfl⟩;obtain ⟨c20,hc20⟩:∃c1,c1=c0_1 - (x20_2:Int).toNat:=⟨_,rfl⟩;have hy2:y1.length=((wrap64 (x20_2+1)):Int).toNat - (x20_2:Int).toNat:=qz76;rw [show ((l0_1).take ((wrap64 (x20_2+1)):Int).toNat).drop (x20_2:Int).toNat=y1 from Ny1.out.symm] at hr20;replace hr20:Kd.C k51 _ A20 y1.length y1:=(by rw [hA20];exact hr20);rw [← hy2,← hA20,← hc20] at hcut20;have HR486:=Aside0.mk hr20;have HC486:=qa (show y1.length≤c20 from by rw [hy2,hc20];exact Nat.sub_le_sub_right (Nat.le_trans (by omega) hroom20) _);clear hr20 hC20 hroom20 hi020 hsz20 hc20;have KY20:=Aside0.mk hy2;have KA20:=Aside0.mk hA20;clear hy2 hA20;replace q20:=eq_true q20;refine start_ (n:=11) (S:=fun w'=>w'.cell? ⟨gb1,0,none⟩=some (.int .i64 a0_0)∧w'.cell? ⟨gb1,1,none⟩=some (.slice A0_1 l0_1.length c0_1)) (ds:=[]) (bq 0 0 0 11) qz2 rfl rfl qz62 (fun hHeld=>?_);refine with_tabW spec_BestClue.tab7 spec_BestClue.bits7 (fun HT_ HW_=>?_)
      generalize wr.drew=w19 at BK1 HB HR486 hHeld ⊢;refine zrp 0 23 (h:=?_);refine zrp 2 25 (h:=?_);refine zrp 4 27 (h:=?_);(iterate 2 refine znp (h:=?_));refine zrt2 1 24 (h:=?_);refine zrt2 3 26 (h:=?_);refine zrp 7 30 (h:=?_);refine zO (i:=8) (N:=some 31) (bq 9 32 511 11) (h:=fun K hK=>?_);refine goes_ Tryz.func39 qz2 rfl #[.int .i64 a0_0,.slice A20 y1.length c20] (by rfl) rfl rfl qz60 ?_;refine (spec_pzAll.calls k2 a0_0 _ _ y1 t2 _ qz78 HC486.out A17.out).mono ?_;rintro e _ ⟨v488,rfl,ho0,hb⟩;refine ⟨_,rfl,?_⟩;have HO1:=qa (Kd.R_lower ho0 (below_size qz6))
      replace BK1:=zBb BK1 hb;replace HB:=qa (below_step qz6 hb);(try clear hb);(try clear hb2);(try clear hk);(try clear hi);(try clear ho0);obtain ⟨Ao22,co22,eo22⟩:=Kd.R_slice HO1.out;(first|subst eo22|(injection eo22 with f1_ f2_ f3_;have f4_:=f1_.symm;have f5_:=f3_.symm;clear f1_ f2_ f3_;subst f4_;subst f5_));refine hK.out _ _ qz62 (fun hHeld=>?_);clear hK K;refine zW (h:=?_);refine znp (h:=?_);refine zrp 10 7 (h:=?_);refine done_ (done_of HT_.out qz2) ?_;(try go_wp2);go_roundg k2
      case measure=>have:=HJ1.out;have:=HK2.out;omega
      case rel=>exact ⟨(x20_2),((t2.length:Int)),(wrap64 (x20_2+1)),qz23,qz23,qz23,H',⟨qz43⟩,⟨qz8⟩,⟨qz6⟩⟩
     have ⟨c18b0,c18b1⟩:=zNe c18;replace H:=zD' H;rcases H with ⟨c23b0,H⟩|⟨c23b0,H⟩
     ·have H':=Aside0.mk H;clear H;(try go_wp2);replace BK1:=zBd BK1;replace HB:=zHd HB;have q29:((wrap64 (x20_2+1)):Int)≤((l0_1.length:Int):Int):=of_decide_eq_true qz38;obtain ⟨i029,hi029,_,hsz29,_⟩:=info_parts info51;have hroom29:l0_1.length≤c0_1:=HC0_1.out;have hC29:Kd.C k51 _ A0_1 l0_1.length l0_1:=HR0_1.out;have ql29:(x20_2:Int)≤((wrap64 (x20_2+1)):Int):=of_decide_eq_true qz38;have q029:(0:Int)≤(x20_2:Int):=of_decide_eq_true qz38;have hcut29:=cut_mid (P:=Tryz.prog) 24 51 .i64 .i64 Tryz.underlying24 hi029 3 hsz29 A0_1 l0_1.length c0_1 x20_2 (wrap64 (x20_2+1)) q029 ql29 q29 hroom29;have hr29:=Kd.C_mid (lo:=(x20_2:Int).toNat) (hi:=((wrap64 (x20_2+1)):Int).toNat) (c:=c0_1) hC29 (by omega) (by omega) hroom29
      obtain ⟨A29,hA29⟩:∃A1,A1=(if c0_1=(x20_2:Int).toNat then A0_1 else (A0_1:Option Addr).map (·.add ((x20_2:Int).toNat*3))):=⟨_,rfl⟩;obtain ⟨c29,hc29⟩:∃c1,c1=c0_1 - (x20_2:Int).toNat:=⟨_,rfl⟩;have hy3:y1.length=((wrap64 (x20_2+1)):Int).toNat - (x20_2:Int).toNat:=qz76;rw [show ((l0_1).take ((wrap64 (x20_2+1)):Int).toNat).drop (x20_2:Int).toNat=y1 from Ny1.out.symm] at hr29;replace hr29:Kd.C k51 _ A29 y1.length y1:=(by rw [hA29];exact hr29);rw [← hy3,← hA29,← hc29] at hcut29;have HR486:=Aside0.mk hr29;have HC486:=qa (show y1.length≤c29 from by rw [hy3,hc29];exact Nat.sub_le_sub_right (Nat.le_trans (by omega) hroom29) _);clear hr29 hC29 hroom29 hi029 hsz29 hc29;have KY29:=Aside0.mk hy3;have KA29:=Aside0.mk hA29;clear hy3 hA29;replace q29:=eq_true q29;refine start_ (n:=11) (S:=fun w'=>w'.cell? ⟨gb1,0,none⟩=some (.int .i64 a0_0)∧w'.cell? ⟨gb1,1,none⟩=some (.slice A0_1 l0_1.length c0_1)) (ds:=[]) (bq 0 0 0 11) qz2 rfl rfl qz62 (fun hHeld=>?_);refine with_tabW spec_BestClue.tab7 spec_BestClue.bits7 (fun HT_ HW_=>?_)
      generalize wr.drew=w28 at BK1 HB HR486 hHeld ⊢;refine zrp 0 23 (h:=?_);refine zrp 2 25 (h:=?_);refine zrp 4 27 (h:=?_);(iterate 2 refine znp (h:=?_));refine zrt2 1 24 (h:=?_);refine zrt2 3 26 (h:=?_);refine zrp 7 30 (h:=?_);refine zO (i:=8) (N:=some 31) (bq 9 32 511 11) (h:=fun K hK=>?_);refine goes_ Tryz.func39 qz2 rfl #[.int .i64 a0_0,.slice A29 y1.length c29] (by rfl) rfl rfl qz60 ?_;refine (spec_pzAll.calls k2 a0_0 _ _ y1 t2 _ qz78 HC486.out A17.out).mono ?_;rintro e _ ⟨v488,rfl,ho0,hb⟩;refine ⟨_,rfl,?_⟩;have HO1:=qa (Kd.R_lower ho0 (below_size qz6))
      replace BK1:=zBb BK1 hb;replace HB:=qa (below_step qz6 hb);(try clear hb);(try clear hb2);(try clear hk);(try clear hi);(try clear ho0);obtain ⟨Ao31,co31,eo31⟩:=Kd.R_slice HO1.out;(first|subst eo31|(injection eo31 with f1_ f2_ f3_;have f4_:=f1_.symm;have f5_:=f3_.symm;clear f1_ f2_ f3_;subst f4_;subst f5_));refine hK.out _ _ qz62 (fun hHeld=>?_);clear hK K;refine zW (h:=?_);refine znp (h:=?_);refine zrp 10 7 (h:=?_);refine done_ (done_of HT_.out qz2) ?_;(try go_wp2);go_roundg k2
      case measure=>have:=HJ1.out;have:=HK2.out;omega
      case rel=>exact ⟨(x4_2),(x5_2),(wrap64 (x20_2+1)),qz23,qz23,qz23,H',⟨qz43⟩,⟨qz8⟩,⟨qz6⟩⟩
     have H':=Aside0.mk H;clear H;(try go_wp2);replace BK1:=zBd BK1;replace HB:=zHd HB;have q25:((wrap64 (x20_2+1)):Int)≤((l0_1.length:Int):Int):=of_decide_eq_true qz38;obtain ⟨i025,hi025,_,hsz25,_⟩:=info_parts info51;have hroom25:l0_1.length≤c0_1:=HC0_1.out;have hC25:Kd.C k51 _ A0_1 l0_1.length l0_1:=HR0_1.out;have ql25:(x20_2:Int)≤((wrap64 (x20_2+1)):Int):=of_decide_eq_true qz38;have q025:(0:Int)≤(x20_2:Int):=of_decide_eq_true qz38;have hcut25:=cut_mid (P:=Tryz.prog) 24 51 .i64 .i64 Tryz.underlying24 hi025 3 hsz25 A0_1 l0_1.length c0_1 x20_2 (wrap64 (x20_2+1)) q025 ql25 q25 hroom25;have hr25:=Kd.C_mid (lo:=(x20_2:Int).toNat) (hi:=((wrap64 (x20_2+1)):Int).toNat) (c:=c0_1) hC25 (by omega) (by omega) hroom25
     obtain ⟨A25,hA25⟩:∃A1,A1=(if c0_1=(x20_2:Int).toNat then A0_1 else (A0_1:Option Addr).map (·.add ((x20_2:Int).toNat*3))):=⟨_,rfl⟩;obtain ⟨c25,hc25⟩:∃c1,c1=c0_1 - (x20_2:Int).toNat:=⟨_,rfl⟩;have hy4:y1.length=((wrap64 (x20_2+1)):Int).toNat - (x20_2:Int).toNat:=qz76;rw [show ((l0_1).take ((wrap64 (x20_2+1)):Int).toNat).drop (x20_2:Int).toNat=y1 from Ny1.out.symm] at hr25;replace hr25:Kd.C k51 _ A25 y1.length y1:=(by rw [hA25];exact hr25);rw [← hy4,← hA25,← hc25] at hcut25;have HR486:=Aside0.mk hr25;have HC486:=qa (show y1.length≤c25 from by rw [hy4,hc25];exact Nat.sub_le_sub_right (Nat.le_trans (by omega) hroom25) _);clear hr25 hC25 hroom25 hi025 hsz25 hc25;have KY25:=Aside0.mk hy4;have KA25:=Aside0.mk hA25;clear hy4 hA25;replace q25:=eq_true q25;refine start_ (n:=11) (S:=fun w'=>w'.cell? ⟨gb1,0,none⟩=some (.int .i64 a0_0)∧w'.cell? ⟨gb1,1,none⟩=some (.slice A0_1 l0_1.length c0_1)) (ds:=[]) (bq 0 0 0 11) qz2 rfl rfl qz62 (fun hHeld=>?_);refine with_tabW spec_BestClue.tab7 spec_BestClue.bits7 (fun HT_ HW_=>?_)
     generalize wr.drew=w24 at BK1 HB HR486 hHeld ⊢;refine zrp 0 23 (h:=?_);refine zrp 2 25 (h:=?_);refine zrp 4 27 (h:=?_);(iterate 2 refine znp (h:=?_));refine zrt2 1 24 (h:=?_);refine zrt2 3 26 (h:=?_);refine zrp 7 30 (h:=?_);refine zO (i:=8) (N:=some 31) (bq 9 32 511 11) (h:=fun K hK=>?_);refine goes_ Tryz.func39 qz2 rfl #[.int .i64 a0_0,.slice A25 y1.length c25] (by rfl) rfl rfl qz60 ?_;refine (spec_pzAll.calls k2 a0_0 _ _ y1 t2 _ qz78 HC486.out A17.out).mono ?_;rintro e _ ⟨v488,rfl,ho0,hb⟩;refine ⟨_,rfl,?_⟩;have HO1:=qa (Kd.R_lower ho0 (below_size qz6))
     replace BK1:=zBb BK1 hb;replace HB:=qa (below_step qz6 hb);(try clear hb);(try clear hb2);(try clear hk);(try clear hi);(try clear ho0);obtain ⟨Ao27,co27,eo27⟩:=Kd.R_slice HO1.out;(first|subst eo27|(injection eo27 with f1_ f2_ f3_;have f4_:=f1_.symm;have f5_:=f3_.symm;clear f1_ f2_ f3_;subst f4_;subst f5_));refine hK.out _ _ qz62 (fun hHeld=>?_);clear hK K;refine zW (h:=?_);refine znp (h:=?_);refine zrp 10 7 (h:=?_);refine done_ (done_of HT_.out qz2) ?_;(try go_wp2);go_roundg k2
     case measure=>have:=HJ1.out;have:=HK2.out;omega
     case rel=>exact ⟨(x20_2),((t2.length:Int)),(wrap64 (x20_2+1)),qz23,qz23,qz23,H',⟨qz43⟩,⟨qz8⟩,⟨qz6⟩⟩
def strconv_Itoa.f (a0:Int):Option ByteArray:=if 0≤a0∧a0≤9223372036854775807 then some ⟨(Lib.itoa a0).toArray⟩ else none
theorem strconv_Itoa.calls (a0:Int) (r:ByteArray) (w:World) (htab:LibW.LibOk w) (h:strconv_Itoa.f a0=some r):Calls Tryz.prog 44 #[.int .i64 a0] w fun e w'=>e=.returned (.string r)∧Below w.heap.size w w':=by
 unfold strconv_Itoa.f at h;by_cases hc:0≤a0∧a0≤9223372036854775807;rotate_left
 ·rw [if_neg hc] at h;cases h
 rw [if_pos hc] at h;obtain rfl:=Option.some.inj h;refine (Tryz.strconv_Itoa a0 (by omega) (by omega) w htab.2.1).mono ?_;rintro e w' ⟨rfl,k,os,rfl⟩;exact ⟨rfl,rfl,rfl,rfl,by show w.heap.size≤(w.heap++os).size;simp,fun i hi=>by show (w.heap++os)[i]? = w.heap[i]?;exact Array.getElem?_append_left hi⟩
def strings_Join.f (l0:List ByteArray) (a1:ByteArray):Option ByteArray:=if (Lib.join (l0.map (·.data.toList)) a1.data.toList).length≤1000000000∧l0.length≤1000000000 then some ⟨(Lib.join (l0.map (·.data.toList)) a1.data.toList).toArray⟩ else none
theorem strings_Join.calls (A0:Option Addr) (c0:Nat) (l0:List ByteArray) (a1:ByteArray) (r:ByteArray) (w:World) (hr0:Kd.C Kd.string w A0 l0.length l0) (hc0:l0.length≤c0) (h:strings_Join.f l0 a1=some r) :
    Calls Tryz.prog 45 #[.slice A0 l0.length c0,.string a1] w fun e w'=>e=.returned (.string r)∧Below w.heap.size w w':=by
 unfold strings_Join.f at h;by_cases hc:(Lib.join (l0.map (·.data.toList)) a1.data.toList).length≤1000000000∧l0.length≤1000000000;rotate_left
 ·rw [if_neg hc] at h;cases h
 rw [if_pos hc] at h;obtain rfl:=Option.some.inj h;by_cases h0:0<l0.length;rotate_left
 ·have e0:l0=[]:=List.eq_nil_of_length_eq_zero (by omega);subst e0;refine (Tryz.strings_Join_none A0 c0 a1 w).mono ?_;rintro e w' ⟨rfl,rfl⟩;exact ⟨rfl,Below.refl _ _⟩
 obtain ⟨ad,rfl,hcell⟩:=hr0.2.2 h0;obtain ⟨bk,o,p⟩:=ad
 have hp:p=none:=by
  obtain ⟨c,_,hk,hcc⟩:=hcell 0 _ (List.getElem?_eq_getElem h0);have hk':c=[Value.string l0[0]]:=hk;subst hk';have:=hcc 0 (.string l0[0]) rfl;simp only [Nat.zero_mul,Nat.add_zero,Addr.add,if_true] at this
  cases p with
  | none=>rfl
  | some q=>
   simp only [World.cell?] at this;split at this
   ·simp at this
   cases this
 subst hp
 have hone:∀(j:Nat) x,l0[j]? = some x→w.cell? ⟨bk,o+j,none⟩=some (.string x):=by
  intro j x hx;obtain ⟨c,_,hk,hcc⟩:=hcell j x hx;have hk':c=[Value.string x]:=hk;subst hk';have:=hcc 0 (.string x) rfl;simp only [show Kd.string.sz=1 from rfl,Nat.mul_one,Nat.add_zero,Addr.add] at this;by_cases hj:j=0
  ·subst hj;simpa using this
  simpa [hj] using this
 have hx0:=hone 0 _ (List.getElem?_eq_getElem h0);exact Tryz.strings_Join bk o c0 l0 a1 w hone (World.block_lt_of_cell? w _ hx0) (by omega) hc0 (by omega)
end Go.Proofs.YtdphjeiccokhnaaGreatDoor.QFnChainsGuessed
