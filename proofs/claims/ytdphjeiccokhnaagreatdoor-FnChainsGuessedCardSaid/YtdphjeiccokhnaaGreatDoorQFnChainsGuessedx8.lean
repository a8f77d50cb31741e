/- The functions that a law reaches, as plain Lean functions, and their walks. Written by a program of this session, turned out of the kit's print. Conditions: those that each theorem names. -/
import Derived.Test.YtdphjeiccokhnaaGreatDoorMac
import Derived.Test.YtdphjeiccokhnaaGreatDoorQFnChainsGuessedx0
import Derived.Test.YtdphjeiccokhnaaGreatDoorQFnChainsGuessedx7
namespace Go.Proofs.YtdphjeiccokhnaaGreatDoor.QFnChainsGuessed
open Go.RowKit Go.Proofs.YtdphjeiccokhnaaGreatDoorW.PrintWords Go.Proofs.YtdphjeiccokhnaaGreatDoorW.PrintLast Go.Proofs.YtdphjeiccokhnaaGreatDoorW.PrintMore Go.Proofs.YtdphjeiccokhnaaGreatDoor.Mac
attribute [local go_sem] max2_int min2_int max_two min_two max_three min_three max_four min_four
attribute [local go_sem] Go.Proofs.YtdphjeiccokhnaaGreatDoor.Kit.isSome_setCell
set_option linter.unusedVariables false
set_option linter.unusedSimpArgs false
def impl_Chain_share.f (k:Nat) (a0_0:Int) (a0_1:Int) (a0_2:Int) (a1:Int):Option (Int×Int):=(impl_otherDay.f a1).bind fun t264=>((impl_Chain_leave.f a0_0 a0_1 a0_2 t264).bind fun t265=>((impl_lowest.f k t265 (wrap64 (a0_0+a0_1))).bind fun bt266=>(some (bt266.1,bt266.2))))
theorem impl_Chain_share.mono:∀a0 a1 a2 a3 k,LeO (impl_Chain_share.f k a0 a1 a2 a3) (impl_Chain_share.f (k+1) a0 a1 a2 a3):=by
  intro a0 a1 a2 a3 k
  unfold impl_Chain_share.f
  repeat' first
   | with_reducible first|exact impl_lowest.mono _ _ _|exact LeO.refl _|exact LeO.none _|refine LeO.ite ?_ ?_|refine LeO.bind ?_ (fun _=>?_)
def impl_Chain_share.T1:Bool×List (List Nat×List Nat):=(true,[([],[]),([],[]),([1],[1]),([0,2,2],[0,2]),([],[]),([4],[4]),([],[]),([6],[6]),([5,7],[5,7]),([3,8,3],[3,8]),([9,9,0,1,2,3,4,5,6,7,8,9],[9])])
def impl_Chain_share.B1:List Nat:=[0,0,2,7,0,16,0,64,240,511,1023]
theorem impl_Chain_share.tab1:rtab .any (opsOf Tryz.f111 1)=impl_Chain_share.T1:=by kernel_rfl
theorem impl_Chain_share.bits1:waitsOk impl_Chain_share.T1.2 impl_Chain_share.B1=true:=by kernel_rfl
set_option maxHeartbeats 8000000 in
set_option maxRecDepth 100000 in
theorem impl_Chain_share.calls (k:Nat) (a0_0:Int) (a0_1:Int) (a0_2:Int) (a1:Int) (r1:Int) (r2:Int) (w:World) (h:impl_Chain_share.f k a0_0 a0_1 a0_2 a1=some (r1,r2)) :
    Calls Tryz.prog 111 #[.agg #[.int .i64 a0_0,.int .i64 a0_1,.int .i64 a0_2],.int .u8 a1] w fun e w'=>e=.returned (.agg #[.int .i64 r1,.int .i64 r2])∧Below w.heap.size w w':=by
 have hu34:=Tryz.underlying34;have hu128:=Tryz.underlying128;have HB:=qa (Below.refl w.heap.size w);have H:=h;unfold impl_Chain_share.f at H;clear h;replace H:=zB H;obtain ⟨t1,A3,H⟩:=H;replace H:=zB H;obtain ⟨t2,A4,H⟩:=H;replace H:=zB H;obtain ⟨⟨t3,t4⟩,A5,H⟩:=H;(try dsimp only at H);simp only [Option.some.injEq,Prod.mk.injEq] at H;obtain ⟨rfl,rfl⟩:=H;go_enter Tryz.func111,Tryz.ntmps111
 (try go_wp2_with (first|(refine zX (N:=2) (cs:=#[.int .i64 a0_0,.int .i64 a0_1,.int .i64 a0_2]) (t:=34) (h:=?_);intro gb1 hg _ hbox hb;have BK1:=qa hbox;have GE1:=qa (qz3:w.heap.size≤gb1);replace HB:=zs HB hb;clear hb hbox hg)|(refine zX (N:=4) (cs:=#[.int .i64 0,.int .i64 0]) (t:=128) (h:=?_);intro gb2 hg w7 hbox hb;have BK2:=qa hbox;have GE2:=qa (qz5:w.heap.size≤gb2);replace HB:=qa (below_step qz6 hb);have NB1_2:=qa (qz7:gb1≠gb2);have NB2_1:=qa (qz9:gb2≠gb1);replace BK1:=zBb BK1 hb;clear hb hbox hg)))
 replace BK1:=zBd BK1;replace BK2:=zBd BK2;replace HB:=zHd HB;refine start_ (n:=11) (S:=fun w'=>w'.cell? ⟨gb1,0,none⟩=some (.int .i64 a0_0)∧w'.cell? ⟨gb1,1,none⟩=some (.int .i64 a0_1)∧w'.cell? ⟨gb1,2,none⟩=some (.int .i64 a0_2)) (ds:=[]) (bq 0 0 0 11) qz2 rfl rfl qz153 (fun hHeld=>?_);refine with_tabW impl_Chain_share.tab1 impl_Chain_share.bits1 (fun HT_ HW_=>?_);generalize w7.drew=w8 at BK1 BK2 HB hHeld ⊢;refine zrp 1 6 (h:=?_);refine zrp 4 9 (h:=?_);refine zrp 6 11 (h:=?_);refine zrt3 0 5 (h:=?_);refine zrt3 5 10 (h:=?_);refine zrt3 7 12 (h:=?_);refine znp (h:=?_);refine zO (i:=2) (N:=some 7) (bq 3 8 503 11) (h:=fun K hK=>?_);refine goes_ Tryz.func133 qz2 rfl #[.int .u8 a1] (by rfl) rfl rfl qz60 ?_
 refine (impl_otherDay.calls a1 t1 _ A3.out).mono ?_;rintro e w' ⟨rfl,⟨nd,rfl⟩⟩;refine ⟨_,rfl,?_⟩;refine hK.out _ _ qz153 (fun hHeld=>?_);clear hK K;refine zW (h:=?_);refine zO (i:=3) (N:=some 8) (bq 4 9 511 11) (h:=fun K hK=>?_);refine goes_ Tryz.func113 qz2 rfl #[.agg #[.int .i64 a0_0,.int .i64 a0_1,.int .i64 a0_2],.int .u8 t1] (by rfl) rfl rfl qz60 ?_;refine (impl_Chain_leave.calls a0_0 a0_1 a0_2 t1 t2 _ A4.out).mono ?_;rintro e _ ⟨rfl,hb⟩;refine ⟨_,rfl,?_⟩;replace BK1:=zBb BK1 hb;replace BK2:=zBb BK2 hb;replace HB:=qa (below_step qz11 hb)
 (try clear hb);(try clear hb2);(try clear hk);(try clear hi);refine hK.out _ _ qz153 (fun hHeld=>?_);clear hK K;refine zW (h:=?_);refine zO (i:=9) (N:=some 14) (bq 10 15 1023 11) (h:=fun K hK=>?_);refine goes_ Tryz.func114 qz2 rfl #[.int .i64 t2,.int .i64 (wrap64 (a0_0+a0_1))] (by rfl) rfl rfl qz60 ?_;refine (impl_lowest.calls k t2 (wrap64 (a0_0+a0_1)) t3 t4 _ A5.out).mono ?_;rintro e w10 ⟨rfl,hb⟩;refine ⟨_,rfl,?_⟩;replace BK1:=zBb BK1 hb;replace BK2:=zBb BK2 hb;replace HB:=qa (below_step qz11 hb)
 (try clear hb);(try clear hb2);(try clear hk);(try clear hi);refine hK.out _ _ qz153 (fun hHeld=>?_);clear hK K;refine zW (h:=?_);refine zO (i:=10) (N:=none) (bq 11 0 2047 11) (h:=fun K hK=>?_);have hs11:w10.cell? ⟨gb2,0,none⟩=some (.int .i64 0):=(blk_cell BK2.out 0).trans rfl;have hfs11:=blk_frozen BK2.out 0;have hns11_0:=NB1_2.out;have hms11_0:=NB2_1.out;have hs12:w10.cell? ⟨gb2,1,none⟩=some (.int .i64 0):=(blk_cell BK2.out 1).trans rfl;have hfs12:=blk_frozen BK2.out 1;have hns12_0:=NB1_2.out;have hms12_0:=NB2_1.out;refine skip_ (w1:=?_) (by rfl) rfl ?_ ?_;rotate_left
 ·go_simp;rfl
 refine hK.out _ _ ⟨((cell_far (p:=⟨gb2,_,none⟩) NB1_2.out _).trans (((cell_far (p:=⟨gb2,_,none⟩) NB1_2.out _).trans (hHeld.1)))),((cell_far (p:=⟨gb2,_,none⟩) NB1_2.out _).trans (((cell_far (p:=⟨gb2,_,none⟩) NB1_2.out _).trans (hHeld.2.1)))),((cell_far (p:=⟨gb2,_,none⟩) NB1_2.out _).trans (((cell_far (p:=⟨gb2,_,none⟩) NB1_2.out _).trans (hHeld.2.2))))⟩ (fun hHeld=>?_);clear hK K;refine done_ (done_of HT_.out qz2) ?_;(try go_wp2);refine bodyPost_ret (results_cell_row rfl _ _ gb2 128 #[.int .i64 t3,.int .i64 t4] (0,0) _ rfl (by (with_reducible repeat (first|refine blk_drewN ?_ _|refine blk_drew ?_|refine blk_alloc ?_ _));refine blk_put (cs:=#[.int .i64 t3,.int .i64 0]) ?_ 1 _ rfl;(with_reducible repeat (first|refine blk_drewN ?_ _|refine blk_drew ?_|refine blk_alloc ?_ _));refine blk_put (cs:=#[.int .i64 0,.int .i64 0]) ?_ 0 _ rfl;(with_reducible repeat (first|refine blk_drewN ?_ _|refine blk_drew ?_|refine blk_alloc ?_ _));exact BK2.out) Tryz.underlying128 rfl qz2) rfl ?_
 exact ⟨qz15,qz11⟩
def impl_frac_told.f (a0_0:Int) (a0_1:Int):Option (Int×Int×Bool):=some (a0_0,a0_1,true)
set_option maxHeartbeats 8000000 in
set_option maxRecDepth 100000 in
theorem impl_frac_told.calls (a0_0:Int) (a0_1:Int) (r1:Int) (r2:Int) (r3:Bool) (w:World) (h:impl_frac_told.f a0_0 a0_1=some (r1,r2,r3)) :
    Calls Tryz.prog 112 #[.agg #[.int .i64 a0_0,.int .i64 a0_1]] w fun e w'=>e=.returned (.tuple #[.int .i64 r1,.int .i64 r2,.bool r3])∧Below w.heap.size w w':=by
 have hu128:=Tryz.underlying128;have HB:=qa (Below.refl w.heap.size w);have H:=h;unfold impl_frac_told.f at H;clear h;simp only [Option.some.injEq,Prod.mk.injEq] at H;obtain ⟨rfl,rfl,rfl⟩:=H;go_enter Tryz.func112,Tryz.ntmps112;go_wp2_with (first|(refine zX (N:=1) (cs:=#[.int .i64 a0_0,.int .i64 a0_1]) (t:=128) (h:=?_);intro gb1 hg w2 hbox hb;have BK1:=qa hbox;have GE1:=qa (qz3:w.heap.size≤gb1);replace HB:=zs HB hb;clear hb hbox hg;have ⟨_,_,_,_⟩:=zC2 BK1.out))
 (repeat (go_quiet (first|(refine zX (N:=1) (cs:=#[.int .i64 a0_0,.int .i64 a0_1]) (t:=128) (h:=?_);intro gb1 hg w2 hbox hb;have BK1:=qa hbox;have GE1:=qa (qz3:w.heap.size≤gb1);replace HB:=zs HB hb;clear hb hbox hg;have ⟨_,_,_,_⟩:=zC2 BK1.out));try go_wp2_with (first|(refine zX (N:=1) (cs:=#[.int .i64 a0_0,.int .i64 a0_1]) (t:=128) (h:=?_);intro gb1 hg w2 hbox hb;have BK1:=qa hbox;have GE1:=qa (qz3:w.heap.size≤gb1);replace HB:=zs HB hb;clear hb hbox hg;have ⟨_,_,_,_⟩:=zC2 BK1.out))));go_ret3;exact ⟨qz15,qz6⟩
def impl_LongShare.j0:Nat→ByteArray→Bool→Int→Int→Int→Option (Int×Int×Bool)
  | 0,_,_,_,_,_=>none
  | k+1,x1,x19,x270000,x270001,x270002=>if x19=true then (some (0,0,false)) else (if 0<(x1.size:Int) then ((impl_Chain_share.f k x270000 x270001 x270002 (bt x1 0)).bind fun bt273=>((impl_frac_told.f bt273.1 bt273.2).bind fun bt275=>(some (bt275.1,bt275.2.1,bt275.2.2)))) else (none))
def impl_LongShare.f (k:Nat) (a0_0:Int) (a0_1:Int) (a0_2:Int) (a1:ByteArray):Option (Int×Int×Bool):=(impl_IsChain.f a0_0 a0_1 a0_2).bind fun t270=>(if t270=true then ((impl_isDay.f a1).bind fun t271=>(if t271=true then ((impl_Chain_mixes.f a0_0 a0_1 a0_2).bind fun t272=>(impl_LongShare.j0 k a1 (!t272) a0_0 a0_1 a0_2)) else (impl_LongShare.j0 k a1 true a0_0 a0_1 a0_2))) else (impl_LongShare.j0 k a1 true a0_0 a0_1 a0_2))
theorem impl_LongShare.mono_l:∀k,(∀y0 y1 y2 y3 y4,LeO (impl_LongShare.j0 k y0 y1 y2 y3 y4) (impl_LongShare.j0 (k+1) y0 y1 y2 y3 y4))
  | 0=>fun _ _ _ _ _ r h=>by simp [impl_LongShare.j0] at h
  | k+1=>by
    have ih0:=impl_LongShare.mono_l k
    · intro y0 y1 y2 y3 y4
      unfold impl_LongShare.j0
      repeat' first
   | with_reducible first|exact ih0 _ _ _ _ _|exact impl_Chain_share.mono _ _ _ _ _|exact LeO.refl _|exact LeO.none _|refine LeO.ite ?_ ?_|refine LeO.bind ?_ (fun _=>?_)
theorem impl_LongShare.mono:∀a0 a1 a2 a3 k,LeO (impl_LongShare.f k a0 a1 a2 a3) (impl_LongShare.f (k+1) a0 a1 a2 a3):=by
  intro a0 a1 a2 a3 k
  have ih0:=impl_LongShare.mono_l k
  unfold impl_LongShare.f
  repeat' first
   | with_reducible first|exact ih0 _ _ _ _ _|exact impl_Chain_share.mono _ _ _ _ _|exact LeO.refl _|exact LeO.none _|refine LeO.ite ?_ ?_|refine LeO.bind ?_ (fun _=>?_)
def impl_LongShare.T3:Bool×List (List Nat×List Nat):=(true,[([],[]),([],[]),([1],[1]),([0,2],[0,2]),([3,3],[3]),([4],[4]),([4],[4]),([4],[4]),([5,4,0,1,2,3,4,5,6,7],[5]),([6,8,0,1,2,3,4,5,6,7,8],[6]),([7,9,0,1,2,3,4,5,6,7,8,9],[7])])
def impl_LongShare.B3:List Nat:=[0,0,2,7,15,31,31,31,255,511,1023]
theorem impl_LongShare.tab3:rtab .any (opsOf Tryz.f90 3)=impl_LongShare.T3:=by kernel_rfl
theorem impl_LongShare.bits3:waitsOk impl_LongShare.T3.2 impl_LongShare.B3=true:=by kernel_rfl
set_option maxHeartbeats 8000000 in
set_option maxRecDepth 100000 in
theorem impl_LongShare.calls (k:Nat) (a0_0:Int) (a0_1:Int) (a0_2:Int) (a1:ByteArray) (r1:Int) (r2:Int) (r3:Bool) (w:World) (h:impl_LongShare.f k a0_0 a0_1 a0_2 a1=some (r1,r2,r3)) :
    Calls Tryz.prog 90 #[.agg #[.int .i64 a0_0,.int .i64 a0_1,.int .i64 a0_2],.string a1] w fun e w'=>e=.returned (.tuple #[.int .i64 r1,.int .i64 r2,.bool r3])∧Below w.heap.size w w':=by
 have hu34:=Tryz.underlying34;have HB:=qa (Below.refl w.heap.size w);have H:=h;unfold impl_LongShare.f at H;clear h;have HC3:=Aside0.mk H;clear H;go_enter Tryz.func90,Tryz.ntmps90;go_upto_region 1 with (first|(refine zX (N:=2) (cs:=#[.int .i64 a0_0,.int .i64 a0_1,.int .i64 a0_2]) (t:=34) (h:=?_);intro gb1 hg _ hbox hb;have BK1:=qa hbox;have GE1:=qa (qz3:w.heap.size≤gb1);replace HB:=zs HB hb;clear hb hbox hg));(try simp only [Act.put,List.setIfInBounds_toArray,List.set_cons_zero,List.set_cons_succ]);go_cut [19] (fun v19 wc=>∃(kq:Nat) (x19_2:Bool),v19=.bool x19_2∧Aside0 (impl_LongShare.j0 kq a1 x19_2 a0_0 a0_1 a0_2=some (r1,r2,r3))∧Aside0 (kq≤k)∧Aside0 (wc.heap[gb1]? = some (.cells #[.int .i64 a0_0,.int .i64 a0_1,.int .i64 a0_2] 34 (0,0)))∧Aside0 (Below w.heap.size w wc))
 case first=>
  have H:=HC3.out;clear HC3;replace H:=zB H;obtain ⟨t1,A5,H⟩:=H;replace H:=zI' H;rcases H with ⟨rfl,H⟩|⟨rfl,H⟩
  ·(try dsimp only at H);have H':=Aside0.mk H;clear H;have ⟨_,_,_,_,_,_⟩:=zC3 BK1.out;go_wp2_with (first|(refine zL 28 (some 8) Tryz.func28 #[.agg #[.int .i64 a0_0,.int .i64 a0_1,.int .i64 a0_2]] (h:=?_);refine (impl_IsChain.calls a0_0 a0_1 a0_2 false _ A5.out).mono ?_;rintro e _ ⟨rfl,hb⟩;refine ⟨_,rfl,?_⟩;replace BK1:=zBb BK1 hb;replace HB:=qa (below_step qz6 hb);clear hb));go_meet
   case rel=>exact ⟨_,(true),qz23,H',⟨qz35⟩,⟨qz8⟩,⟨qz6⟩⟩
  (try dsimp only at H);replace H:=zB H;obtain ⟨t2,A7,H⟩:=H;replace H:=zI' H;rcases H with ⟨rfl,H⟩|⟨rfl,H⟩
  ·(try dsimp only at H);have H':=Aside0.mk H;clear H;have ⟨_,_,_,_,_,_⟩:=zC3 BK1.out;go_wp2_with (first|(refine zL 28 (some 8) Tryz.func28 #[.agg #[.int .i64 a0_0,.int .i64 a0_1,.int .i64 a0_2]] (h:=?_);refine (impl_IsChain.calls a0_0 a0_1 a0_2 true _ A5.out).mono ?_;rintro e _ ⟨rfl,hb⟩;refine ⟨_,rfl,?_⟩;replace BK1:=zBb BK1 hb;replace HB:=qa (below_step qz6 hb);clear hb)|(go_at_call 109;(with_reducible refine (impl_isDay.calls a1 false _ A7.out).mono ?_);rintro e w' ⟨rfl,⟨nd,rfl⟩⟩));go_meet
   case rel=>exact ⟨_,(true),qz23,H',⟨qz35⟩,⟨qz8⟩,⟨qz6⟩⟩
  (try dsimp only at H);replace H:=zB H;obtain ⟨t3,A9,H⟩:=H;have H':=Aside0.mk H;clear H;have ⟨_,_,_,_,_,_⟩:=zC3 BK1.out
  go_wp2_with (first|(refine zL 28 (some 8) Tryz.func28 #[.agg #[.int .i64 a0_0,.int .i64 a0_1,.int .i64 a0_2]] (h:=?_);refine (impl_IsChain.calls a0_0 a0_1 a0_2 true _ A5.out).mono ?_;rintro e _ ⟨rfl,hb⟩;refine ⟨_,rfl,?_⟩;replace BK1:=zBb BK1 hb;replace HB:=qa (below_step qz6 hb);clear hb)|(go_at_call 109;(with_reducible refine (impl_isDay.calls a1 true _ A7.out).mono ?_);rintro e w' ⟨rfl,⟨nd,rfl⟩⟩;have ⟨_,_,_,_,_,_⟩:=zC3 BK1.out)|(go_at_call 110;(with_reducible refine (impl_Chain_mixes.calls a0_0 a0_1 a0_2 t3 _ A9.out).mono ?_);rintro e _ ⟨rfl,hb⟩;replace BK1:=zBb BK1 hb;replace HB:=qa (below_step qz6 hb);clear hb))
  go_meet
  case rel=>exact ⟨_,(!t3),qz23,H',⟨qz35⟩,⟨qz8⟩,⟨qz6⟩⟩
 case rest=>
  clear HC3;obtain ⟨kq,x19_2,rfl,HA,HJ2,BK1,HB⟩:=hcut
  cases kq with
  | zero=>exact absurd HA.out (by simp [impl_LongShare.j0])
  | succ kj2=>
   have H:=HA.out;clear HA;simp only [impl_LongShare.j0] at H;replace H:=zI H;rcases H with ⟨rfl,H⟩|⟨rfl,H⟩
   ·(try dsimp only at H);simp only [Option.some.injEq,Prod.mk.injEq] at H;obtain ⟨rfl,rfl,rfl⟩:=H;go_wp2;go_ret3;exact ⟨qz15,qz6⟩
   (try dsimp only at H);replace H:=zSg' H;obtain ⟨c19,H⟩:=H;have c19b0:=decide_eq_true c19;have c19b1:decide (0<a1.size)=true:=decide_eq_true (by omega);clear c19;replace H:=zB H;obtain ⟨⟨t4,t5⟩,A21,H⟩:=H;(try dsimp only at H);replace H:=zB H;obtain ⟨⟨t6,t7,t8⟩,A22,H⟩:=H;(try dsimp only at H);simp only [Option.some.injEq,Prod.mk.injEq] at H;obtain ⟨rfl,rfl,rfl⟩:=H;(try go_wp2);replace BK1:=zBd BK1;replace HB:=zHd HB;have p20:0≤(0:Int):=(by omega);have q20:0<a1.size:=(by have:(0:Int)<(a1.size:Int):=of_decide_eq_true qz38;omega);have hx20:∀h:0<a1.size,((a1[0]'h).toNat:Int)=bt a1 0:=bt_at a1 0;clear p20;have qi20:(0<(a1.size:Int))=True:=eq_true (of_decide_eq_true qz38);replace q20:=eq_true q20;refine start_ (n:=11) (S:=fun w'=>w'.cell? ⟨gb1,0,none⟩=some (.int .i64 a0_0)∧w'.cell? ⟨gb1,1,none⟩=some (.int .i64 a0_1)∧w'.cell? ⟨gb1,2,none⟩=some (.int .i64 a0_2)) (ds:=[]) (bq 0 0 0 11) qz2 rfl rfl qz153 (fun hHeld=>?_);refine with_tabW impl_LongShare.tab3 impl_LongShare.bits3 (fun HT_ HW_=>?_)
   generalize wc.drew=w23 at BK1 HB hHeld ⊢;refine zrp 1 21 (h:=?_);refine zrt3 0 20 (h:=?_);refine zrt3 2 22 (h:=?_);refine zO (i:=3) (N:=some 23) (bq 4 24 15 11) (h:=fun K hK=>?_);refine goes_ Tryz.func111 qz2 rfl #[.agg #[.int .i64 a0_0,.int .i64 a0_1,.int .i64 a0_2],.int .u8 (bt a1 0)] (by rfl) rfl rfl qz60 ?_;refine (impl_Chain_share.calls kj2 a0_0 a0_1 a0_2 (bt a1 0) t4 t5 _ A21.out).mono ?_;rintro e _ ⟨rfl,hb⟩;refine ⟨_,rfl,?_⟩;replace BK1:=zBb BK1 hb;replace HB:=qa (below_step qz6 hb);(try clear hb);(try clear hb2);(try clear hk);(try clear hi);refine hK.out _ _ qz153 (fun hHeld=>?_)
   clear hK K;refine zW (h:=?_);refine zO (i:=4) (N:=some 24) (bq 5 25 31 11) (h:=fun K hK=>?_);refine goes_ Tryz.func112 qz2 rfl #[.agg #[.int .i64 t4,.int .i64 t5]] (by rfl) rfl rfl qz60 ?_;refine (impl_frac_told.calls t4 t5 t6 t7 t8 _ A22.out).mono ?_;rintro e _ ⟨rfl,hb⟩;refine ⟨_,rfl,?_⟩;replace BK1:=zBb BK1 hb;replace HB:=qa (below_step qz6 hb);(try clear hb);(try clear hb2);(try clear hk);(try clear hi);refine hK.out _ _ qz153 (fun hHeld=>?_);clear hK K;refine zW (h:=?_);(iterate 3 refine znp (h:=?_))
   refine zrp 8 4 (h:=?_);(iterate 2 refine znp (h:=?_));refine done_ (done_of HT_.out qz2) ?_;(try go_wp2);go_ret3;exact ⟨qz15,qz6⟩
end Go.Proofs.YtdphjeiccokhnaaGreatDoor.QFnChainsGuessed
