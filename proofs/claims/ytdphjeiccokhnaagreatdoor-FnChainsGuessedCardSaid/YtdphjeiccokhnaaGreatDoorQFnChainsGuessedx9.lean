/- The functions that a law reaches, as plain Lean functions, and their walks. Written by a program of this session, turned out of the kit's print. Conditions: those that each theorem names. -/
import Derived.Test.YtdphjeiccokhnaaGreatDoorMac
import Derived.Test.YtdphjeiccokhnaaGreatDoorQFnChainsGuessedx0
import Derived.Test.YtdphjeiccokhnaaGreatDoorQFnChainsGuessedx7
import Derived.Test.YtdphjeiccokhnaaGreatDoorQFnChainsGuessedx8
namespace Go.Proofs.YtdphjeiccokhnaaGreatDoor.QFnChainsGuessed
open Go.RowKit Go.Proofs.YtdphjeiccokhnaaGreatDoorW.PrintWords Go.Proofs.YtdphjeiccokhnaaGreatDoorW.PrintLast Go.Proofs.YtdphjeiccokhnaaGreatDoorW.PrintMore Go.Proofs.YtdphjeiccokhnaaGreatDoor.Mac
attribute [local go_sem] max2_int min2_int max_two min_two max_three min_three max_four min_four
attribute [local go_sem] Go.Proofs.YtdphjeiccokhnaaGreatDoor.Kit.isSome_setCell
set_option linter.unusedVariables false
set_option linter.unusedSimpArgs false
def impl_MeanRun.j0:Nat→ByteArray→Bool→Int→Int→Int→Option (Int×Int×Bool)
  | 0,_,_,_,_,_=>none
  | k+1,x1,x21,x279000,x279001,x279002=>if x21=true then (some (0,0,false)) else (if 0<(x1.size:Int) then ((impl_Chain_leave.f x279000 x279001 x279002 (bt x1 0)).bind fun t282=>((impl_lowest.f k x279002 t282).bind fun bt283=>((impl_frac_told.f bt283.1 bt283.2).bind fun bt285=>(some (bt285.1,bt285.2.1,bt285.2.2))))) else (none))
def impl_MeanRun.f (k:Nat) (a0_0:Int) (a0_1:Int) (a0_2:Int) (a1:ByteArray):Option (Int×Int×Bool):=(impl_IsChain.f a0_0 a0_1 a0_2).bind fun t279=>(if t279=true then ((impl_isDay.f a1).bind fun t280=>(if t280=true then (if 0<(a1.size:Int) then ((impl_Chain_leave.f a0_0 a0_1 a0_2 (bt a1 0)).bind fun t281=>(impl_MeanRun.j0 k a1 (t281==0) a0_0 a0_1 a0_2)) else (none)) else (impl_MeanRun.j0 k a1 true a0_0 a0_1 a0_2))) else (impl_MeanRun.j0 k a1 true a0_0 a0_1 a0_2))
theorem impl_MeanRun.mono_l:∀k,(∀y0 y1 y2 y3 y4,LeO (impl_MeanRun.j0 k y0 y1 y2 y3 y4) (impl_MeanRun.j0 (k+1) y0 y1 y2 y3 y4))
  | 0=>fun _ _ _ _ _ r h=>by simp [impl_MeanRun.j0] at h
  | k+1=>by
    have ih0:=impl_MeanRun.mono_l k
    · intro y0 y1 y2 y3 y4
      unfold impl_MeanRun.j0
      repeat' first
   | with_reducible first|exact ih0 _ _ _ _ _|exact impl_lowest.mono _ _ _|exact LeO.refl _|exact LeO.none _|refine LeO.ite ?_ ?_|refine LeO.bind ?_ (fun _=>?_)
theorem impl_MeanRun.mono:∀a0 a1 a2 a3 k,LeO (impl_MeanRun.f k a0 a1 a2 a3) (impl_MeanRun.f (k+1) a0 a1 a2 a3):=by
  intro a0 a1 a2 a3 k
  have ih0:=impl_MeanRun.mono_l k
  unfold impl_MeanRun.f
  repeat' first
   | with_reducible first|exact ih0 _ _ _ _ _|exact impl_lowest.mono _ _ _|exact LeO.refl _|exact LeO.none _|refine LeO.ite ?_ ?_|refine LeO.bind ?_ (fun _=>?_)
def impl_MeanRun.T1:Bool×List (List Nat×List Nat):=(true,[([],[]),([0],[0]),([1],[1]),([2,1],[2]),([3],[3]),([4,3,3],[3,4]),([5,3],[3,5]),([3,6],[3,6]),([7,5],[7]),([8],[8]),([8],[8]),([10,8],[8,10]),([9,11,8,8],[8,9,11]),([12,8],[8,12]),([8,13],[8,13])])
def impl_MeanRun.B1:List Nat:=[0,1,3,7,15,31,63,127,255,511,511,1535,4095,8191,16383]
theorem impl_MeanRun.tab1:rtab .any (opsOf Tryz.f91 1)=impl_MeanRun.T1:=by kernel_rfl
theorem impl_MeanRun.bits1:waitsOk impl_MeanRun.T1.2 impl_MeanRun.B1=true:=by kernel_rfl
def impl_MeanRun.T3:Bool×List (List Nat×List Nat):=(true,[([],[]),([0],[0]),([],[]),([],[]),([3],[3]),([2,4],[2,4]),([1,5,5],[1,5]),([6,6],[6]),([7],[7]),([7],[7]),([7],[7]),([8,7,0,1,2,3,4,5,6,7,8,9,10],[8]),([9,11,0,1,2,3,4,5,6,7,8,9,10,11],[9]),([10,12,0,1,2,3,4,5,6,7,8,9,10,11,12],[10])])
def impl_MeanRun.B3:List Nat:=[0,1,0,0,8,28,63,127,255,255,255,2047,4095,8191]
theorem impl_MeanRun.tab3:rtab .any (opsOf Tryz.f91 3)=impl_MeanRun.T3:=by kernel_rfl
theorem impl_MeanRun.bits3:waitsOk impl_MeanRun.T3.2 impl_MeanRun.B3=true:=by kernel_rfl
set_option maxHeartbeats 8000000 in
set_option maxRecDepth 100000 in
theorem impl_MeanRun.calls (k:Nat) (a0_0:Int) (a0_1:Int) (a0_2:Int) (a1:ByteArray) (r1:Int) (r2:Int) (r3:Bool) (w:World) (h:impl_MeanRun.f k a0_0 a0_1 a0_2 a1=some (r1,r2,r3)) :
    Calls Tryz.prog 91 #[.agg #[.int .i64 a0_0,.int .i64 a0_1,.int .i64 a0_2],.string a1] w fun e w'=>e=.returned (.tuple #[.int .i64 r1,.int .i64 r2,.bool r3])∧Below w.heap.size w w':=by
 have hu34:=Tryz.underlying34;have HB:=qa (Below.refl w.heap.size w);have H:=h;unfold impl_MeanRun.f at H;clear h;have HC3:=Aside0.mk H;clear H;go_enter Tryz.func91,Tryz.ntmps91;go_upto_region 1 with (first|(refine zX (N:=2) (cs:=#[.int .i64 a0_0,.int .i64 a0_1,.int .i64 a0_2]) (t:=34) (h:=?_);intro gb1 hg w4 hbox hb;have BK1:=qa hbox;have GE1:=qa (qz3:w.heap.size≤gb1);replace HB:=zs HB hb;clear hb hbox hg));(try simp only [Act.put,List.setIfInBounds_toArray,List.set_cons_zero,List.set_cons_succ]);go_cut [21] (fun v21 wc=>∃(kq:Nat) (x21_2:Bool),v21=.bool x21_2∧Aside0 (impl_MeanRun.j0 kq a1 x21_2 a0_0 a0_1 a0_2=some (r1,r2,r3))∧Aside0 (kq≤k)∧Aside0 (wc.heap[gb1]? = some (.cells #[.int .i64 a0_0,.int .i64 a0_1,.int .i64 a0_2] 34 (0,0)))∧Aside0 (Below w.heap.size w wc))
 case first=>
  have H:=HC3.out;clear HC3;replace H:=zB H;obtain ⟨t1,A5,H⟩:=H;replace H:=zI' H;rcases H with ⟨rfl,H⟩|⟨rfl,H⟩
  ·(try dsimp only at H);have H':=Aside0.mk H;clear H;(try go_wp2);replace BK1:=zBd BK1;replace HB:=zHd HB;refine start_ (n:=15) (S:=fun w'=>w'.cell? ⟨gb1,0,none⟩=some (.int .i64 a0_0)∧w'.cell? ⟨gb1,1,none⟩=some (.int .i64 a0_1)∧w'.cell? ⟨gb1,2,none⟩=some (.int .i64 a0_2)) (ds:=[]) (bq 0 0 0 15) qz2 rfl rfl qz153 (fun hHeld=>?_);refine with_tabW impl_MeanRun.tab1 impl_MeanRun.bits1 (fun HT_ HW_=>?_);generalize w4.drew=w17 at BK1 HB hHeld ⊢;refine zrt3 0 7 (h:=?_);refine zO (i:=1) (N:=some 8) (bq 2 9 3 15) (h:=fun K hK=>?_);refine goes_ Tryz.func28 qz2 rfl #[.agg #[.int .i64 a0_0,.int .i64 a0_1,.int .i64 a0_2]] (by rfl) rfl rfl qz60 ?_
   refine (impl_IsChain.calls a0_0 a0_1 a0_2 false _ A5.out).mono ?_;rintro e _ ⟨rfl,hb⟩;refine ⟨_,rfl,?_⟩;replace BK1:=zBb BK1 hb;replace HB:=qa (below_step qz6 hb);(try clear hb);(try clear hb2);(try clear hk);(try clear hi);refine hK.out _ _ qz153 (fun hHeld=>?_);clear hK K;refine zW (h:=?_);(iterate 2 refine znp (h:=?_));(iterate 3 refine znu (h:=?_));(iterate 2 refine znp (h:=?_));(iterate 5 refine znu (h:=?_));refine znp (h:=?_);refine done_ (done_of HT_.out qz2) ?_;(try go_wp2);go_meet
   case rel=>exact ⟨_,(true),qz23,H',⟨qz35⟩,⟨qz8⟩,⟨qz6⟩⟩
  (try dsimp only at H);replace H:=zB H;obtain ⟨t2,A7,H⟩:=H;replace H:=zI' H;rcases H with ⟨rfl,H⟩|⟨rfl,H⟩
  ·(try dsimp only at H);have H':=Aside0.mk H;clear H;(try go_wp2);replace BK1:=zBd BK1;replace HB:=zHd HB;refine start_ (n:=15) (S:=fun w'=>w'.cell? ⟨gb1,0,none⟩=some (.int .i64 a0_0)∧w'.cell? ⟨gb1,1,none⟩=some (.int .i64 a0_1)∧w'.cell? ⟨gb1,2,none⟩=some (.int .i64 a0_2)) (ds:=[]) (bq 0 0 0 15) qz2 rfl rfl qz153 (fun hHeld=>?_);refine with_tabW impl_MeanRun.tab1 impl_MeanRun.bits1 (fun HT_ HW_=>?_);generalize w4.drew=w15 at BK1 HB hHeld ⊢;refine zrt3 0 7 (h:=?_);refine zO (i:=1) (N:=some 8) (bq 2 9 3 15) (h:=fun K hK=>?_);refine goes_ Tryz.func28 qz2 rfl #[.agg #[.int .i64 a0_0,.int .i64 a0_1,.int .i64 a0_2]] (by rfl) rfl rfl qz60 ?_
   refine (impl_IsChain.calls a0_0 a0_1 a0_2 true _ A5.out).mono ?_;rintro e _ ⟨rfl,hb⟩;refine ⟨_,rfl,?_⟩;replace BK1:=zBb BK1 hb;replace HB:=qa (below_step qz6 hb);(try clear hb);(try clear hb2);(try clear hk);(try clear hi);refine hK.out _ _ qz153 (fun hHeld=>?_);clear hK K;refine zW (h:=?_);(iterate 3 refine znp (h:=?_));refine zO (i:=5) (N:=some 12) (bq 6 13 63 15) (h:=fun K hK=>?_);refine goes_ Tryz.func109 qz2 rfl #[.string a1] (by rfl) rfl rfl qz60 ?_;refine (impl_isDay.calls a1 false _ A7.out).mono ?_
   rintro e w' ⟨rfl,⟨nd,rfl⟩⟩;refine ⟨_,rfl,?_⟩;refine hK.out _ _ qz153 (fun hHeld=>?_);clear hK K;refine zW (h:=?_);(iterate 3 refine znp (h:=?_));(iterate 5 refine znu (h:=?_));refine znp (h:=?_);refine done_ (done_of HT_.out qz2) ?_;(try go_wp2);go_meet
   case rel=>exact ⟨_,(true),qz23,H',⟨qz35⟩,⟨qz8⟩,⟨qz6⟩⟩
  (try dsimp only at H);replace H:=zSg' H;obtain ⟨c9,H⟩:=H;have c9b0:=decide_eq_true c9;have c9b1:decide (0<a1.size)=true:=decide_eq_true (by omega);clear c9;(first|rw [c9b0]|(simp only [i64_w,i32_w];rw [c9b0])|skip);replace H:=zB H;obtain ⟨t3,A11,H⟩:=H;have H':=Aside0.mk H;clear H;(try go_wp2);replace BK1:=zBd BK1;replace HB:=zHd HB;refine start_ (n:=15) (S:=fun w'=>w'.cell? ⟨gb1,0,none⟩=some (.int .i64 a0_0)∧w'.cell? ⟨gb1,1,none⟩=some (.int .i64 a0_1)∧w'.cell? ⟨gb1,2,none⟩=some (.int .i64 a0_2)) (ds:=[]) (bq 0 0 0 15) qz2 rfl rfl qz153 (fun hHeld=>?_);refine with_tabW impl_MeanRun.tab1 impl_MeanRun.bits1 (fun HT_ HW_=>?_);generalize w4.drew=w12 at BK1 HB hHeld ⊢;refine zrt3 0 7 (h:=?_);refine zO (i:=1) (N:=some 8) (bq 2 9 3 15) (h:=fun K hK=>?_)
  refine goes_ Tryz.func28 qz2 rfl #[.agg #[.int .i64 a0_0,.int .i64 a0_1,.int .i64 a0_2]] (by rfl) rfl rfl qz60 ?_;refine (impl_IsChain.calls a0_0 a0_1 a0_2 true _ A5.out).mono ?_;rintro e _ ⟨rfl,hb⟩;refine ⟨_,rfl,?_⟩;replace BK1:=zBb BK1 hb;replace HB:=qa (below_step qz6 hb);(try clear hb);(try clear hb2);(try clear hk);(try clear hi);refine hK.out _ _ qz153 (fun hHeld=>?_);clear hK K;refine zW (h:=?_);(iterate 3 refine znp (h:=?_));refine zO (i:=5) (N:=some 12) (bq 6 13 63 15) (h:=fun K hK=>?_)
  refine goes_ Tryz.func109 qz2 rfl #[.string a1] (by rfl) rfl rfl qz60 ?_;refine (impl_isDay.calls a1 true _ A7.out).mono ?_;rintro e w' ⟨rfl,⟨nd,rfl⟩⟩;refine ⟨_,rfl,?_⟩;have p10:0≤(0:Int):=(by omega);have q10:0<a1.size:=(by have:(0:Int)<(a1.size:Int):=of_decide_eq_true qz38;omega);have hx10:∀h:0<a1.size,((a1[0]'h).toNat:Int)=bt a1 0:=bt_at a1 0;clear p10;have qi10:(0<(a1.size:Int))=True:=eq_true (of_decide_eq_true qz38);replace q10:=eq_true q10;refine hK.out _ _ qz153 (fun hHeld=>?_);clear hK K;refine zW (h:=?_)
  (iterate 3 refine znp (h:=?_));refine zrp 10 17 (h:=?_);refine zrt3 9 16 (h:=?_);refine zrt3 11 18 (h:=?_);refine zO (i:=12) (N:=some 19) (bq 13 20 8191 15) (h:=fun K hK=>?_);refine goes_ Tryz.func113 qz2 rfl #[.agg #[.int .i64 a0_0,.int .i64 a0_1,.int .i64 a0_2],.int .u8 (bt a1 0)] (by rfl) rfl rfl qz60 ?_;refine (impl_Chain_leave.calls a0_0 a0_1 a0_2 (bt a1 0) t3 _ A11.out).mono ?_;rintro e _ ⟨rfl,hb⟩;refine ⟨_,rfl,?_⟩;replace BK1:=zBb BK1 hb;replace HB:=qa (below_step qz6 hb);(try clear hb);(try clear hb2);(try clear hk);(try clear hi);refine hK.out _ _ qz153 (fun hHeld=>?_)
  clear hK K;refine zW (h:=?_);(iterate 2 refine znp (h:=?_));refine done_ (done_of HT_.out qz2) ?_;(try go_wp2);go_meet
  case rel=>exact ⟨_,((t3==0)),qz23,H',⟨qz35⟩,⟨qz8⟩,⟨qz6⟩⟩
 case rest=>
  clear HC3;obtain ⟨kq,x21_2,rfl,HA,HJ2,BK1,HB⟩:=hcut
  cases kq with
  | zero=>exact absurd HA.out (by simp [impl_MeanRun.j0])
  | succ kj2=>
   have H:=HA.out;clear HA;simp only [impl_MeanRun.j0] at H;replace H:=zI H;rcases H with ⟨rfl,H⟩|⟨rfl,H⟩
   ·(try dsimp only at H);simp only [Option.some.injEq,Prod.mk.injEq] at H;obtain ⟨rfl,rfl,rfl⟩:=H;go_wp2;go_ret3;exact ⟨qz15,qz6⟩
   (try dsimp only at H);replace H:=zSg' H;obtain ⟨c20,H⟩:=H;have c20b0:=decide_eq_true c20;have c20b1:decide (0<a1.size)=true:=decide_eq_true (by omega);clear c20;replace H:=zB H;obtain ⟨t4,A22,H⟩:=H;replace H:=zB H;obtain ⟨⟨t5,t6⟩,A23,H⟩:=H;(try dsimp only at H);replace H:=zB H;obtain ⟨⟨t7,t8,t9⟩,A24,H⟩:=H;(try dsimp only at H);simp only [Option.some.injEq,Prod.mk.injEq] at H;obtain ⟨rfl,rfl,rfl⟩:=H;(try go_wp2);replace BK1:=zBd BK1;replace HB:=zHd HB;have p21:0≤(0:Int):=(by omega);have q21:0<a1.size:=(by have:(0:Int)<(a1.size:Int):=of_decide_eq_true qz38;omega);have hx21:∀h:0<a1.size,((a1[0]'h).toNat:Int)=bt a1 0:=bt_at a1 0;clear p21;have qi21:(0<(a1.size:Int))=True:=eq_true (of_decide_eq_true qz38);replace q21:=eq_true q21
   refine start_ (n:=14) (S:=fun w'=>w'.cell? ⟨gb1,0,none⟩=some (.int .i64 a0_0)∧w'.cell? ⟨gb1,1,none⟩=some (.int .i64 a0_1)∧w'.cell? ⟨gb1,2,none⟩=some (.int .i64 a0_2)) (ds:=[]) (bq 0 0 0 14) qz2 rfl rfl qz153 (fun hHeld=>?_);refine with_tabW impl_MeanRun.tab3 impl_MeanRun.bits3 (fun HT_ HW_=>?_);generalize wc.drew=w25 at BK1 HB hHeld ⊢;refine zrp 0 22 (h:=?_);refine zrp 3 25 (h:=?_);refine zrt3 1 23 (h:=?_);refine znt3 (h:=?_);refine zrt3 4 26 (h:=?_);refine zO (i:=5) (N:=some 27) (bq 6 28 63 14) (h:=fun K hK=>?_);refine goes_ Tryz.func113 qz2 rfl #[.agg #[.int .i64 a0_0,.int .i64 a0_1,.int .i64 a0_2],.int .u8 (bt a1 0)] (by rfl) rfl rfl qz60 ?_
   refine (impl_Chain_leave.calls a0_0 a0_1 a0_2 (bt a1 0) t4 _ A22.out).mono ?_;rintro e _ ⟨rfl,hb⟩;refine ⟨_,rfl,?_⟩;replace BK1:=zBb BK1 hb;replace HB:=qa (below_step qz6 hb);(try clear hb);(try clear hb2);(try clear hk);(try clear hi);refine hK.out _ _ qz153 (fun hHeld=>?_);clear hK K;refine zW (h:=?_);refine zO (i:=6) (N:=some 28) (bq 7 29 127 14) (h:=fun K hK=>?_);refine goes_ Tryz.func114 qz2 rfl #[.int .i64 a0_2,.int .i64 t4] (by rfl) rfl rfl qz60 ?_;refine (impl_lowest.calls kj2 a0_2 t4 t5 t6 _ A23.out).mono ?_
   rintro e _ ⟨rfl,hb⟩;refine ⟨_,rfl,?_⟩;replace BK1:=zBb BK1 hb;replace HB:=qa (below_step qz6 hb);(try clear hb);(try clear hb2);(try clear hk);(try clear hi);refine hK.out _ _ qz153 (fun hHeld=>?_);clear hK K;refine zW (h:=?_);refine zO (i:=7) (N:=some 29) (bq 8 30 255 14) (h:=fun K hK=>?_);refine goes_ Tryz.func112 qz2 rfl #[.agg #[.int .i64 t5,.int .i64 t6]] (by rfl) rfl rfl qz60 ?_;refine (impl_frac_told.calls t5 t6 t7 t8 t9 _ A24.out).mono ?_;rintro e _ ⟨rfl,hb⟩;refine ⟨_,rfl,?_⟩
   replace BK1:=zBb BK1 hb;replace HB:=qa (below_step qz6 hb);(try clear hb);(try clear hb2);(try clear hk);(try clear hi);refine hK.out _ _ qz153 (fun hHeld=>?_);clear hK K;refine zW (h:=?_);(iterate 3 refine znp (h:=?_));refine zrp 11 4 (h:=?_);(iterate 2 refine znp (h:=?_));refine done_ (done_of HT_.out qz2) ?_;(try go_wp2);go_ret3;exact ⟨qz15,qz6⟩
end Go.Proofs.YtdphjeiccokhnaaGreatDoor.QFnChainsGuessed
