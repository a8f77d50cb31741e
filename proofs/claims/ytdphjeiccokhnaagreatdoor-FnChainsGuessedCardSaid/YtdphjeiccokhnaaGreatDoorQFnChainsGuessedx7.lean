/- The functions that a law reaches, as plain Lean functions, and their walks. Written by a program of this session, turned out of the kit's print. Conditions: those that each theorem names. -/
import Derived.Test.YtdphjeiccokhnaaGreatDoorMac
import Derived.Test.YtdphjeiccokhnaaGreatDoorQFnChainsGuessedx0
import Derived.Test.YtdphjeiccokhnaaGreatDoorQFnChainsGuessedx6
namespace Go.Proofs.YtdphjeiccokhnaaGreatDoor.QFnChainsGuessed
open Go.RowKit Go.Proofs.YtdphjeiccokhnaaGreatDoorW.PrintWords Go.Proofs.YtdphjeiccokhnaaGreatDoorW.PrintLast Go.Proofs.YtdphjeiccokhnaaGreatDoorW.PrintMore Go.Proofs.YtdphjeiccokhnaaGreatDoor.Mac
attribute [local go_sem] max2_int min2_int max_two min_two max_three min_three max_four min_four
attribute [local go_sem] Go.Proofs.YtdphjeiccokhnaaGreatDoor.Kit.isSome_setCell
set_option linter.unusedVariables false
set_option linter.unusedSimpArgs false
def impl_IsClue.j0:Nat→Int→Int→Int→Int→Int→Int→Int→Option (Bool)
  | 0,_,_,_,_,_,_,_=>none
  | k+1,x0,x5,x6,x7,x246000,x246001,x246002=>(impl_within.f x0 1 8).bind fun t247=>(if t247=true then ((impl_within.f x246000 0 5).bind fun t248=>(if t248=true then ((impl_within.f x246001 0 x6).bind fun t249=>(if t249=true then ((impl_within.f x246002 x5 x7).bind fun t250=>(some t250)) else (some false))) else (some false))) else (some false))
def impl_IsClue.f (k:Nat) (a0:Int) (a1_0:Int) (a1_1:Int) (a1_2:Int):Option (Bool):=(impl_isTwo.f a1_0).bind fun t246=>(if t246=true then (impl_IsClue.j0 k a0 1 100 100 a1_0 a1_1 a1_2) else (if a1_0=0 then (impl_IsClue.j0 k a0 0 0 1 a1_0 a1_1 a1_2) else (impl_IsClue.j0 k a0 0 0 100 a1_0 a1_1 a1_2)))
theorem impl_IsClue.mono_l:∀k,(∀y0 y1 y2 y3 y4 y5 y6,LeO (impl_IsClue.j0 k y0 y1 y2 y3 y4 y5 y6) (impl_IsClue.j0 (k+1) y0 y1 y2 y3 y4 y5 y6))
  | 0=>fun _ _ _ _ _ _ _ r h=>by simp [impl_IsClue.j0] at h
  | k+1=>by
    have ih0:=impl_IsClue.mono_l k
    · intro y0 y1 y2 y3 y4 y5 y6
      unfold impl_IsClue.j0
      repeat' first
   | with_reducible first|exact ih0 _ _ _ _ _ _ _|exact LeO.refl _|exact LeO.none _|refine LeO.ite ?_ ?_|refine LeO.bind ?_ (fun _=>?_)
theorem impl_IsClue.mono:∀a0 a1 a2 a3 k,LeO (impl_IsClue.f k a0 a1 a2 a3) (impl_IsClue.f (k+1) a0 a1 a2 a3):=by
  intro a0 a1 a2 a3 k
  have ih0:=impl_IsClue.mono_l k
  unfold impl_IsClue.f
  repeat' first
   | with_reducible first|exact ih0 _ _ _ _ _ _ _|exact LeO.refl _|exact LeO.none _|refine LeO.ite ?_ ?_|refine LeO.bind ?_ (fun _=>?_)
set_option maxHeartbeats 8000000 in
set_option maxRecDepth 100000 in
theorem impl_IsClue.calls (k:Nat) (a0:Int) (a1_0:Int) (a1_1:Int) (a1_2:Int) (r:Bool) (w:World) (h:impl_IsClue.f k a0 a1_0 a1_1 a1_2=some r) :
    Calls Tryz.prog 50 #[.int .i64 a0,.agg #[.int .i64 a1_0,.int .i64 a1_1,.int .i64 a1_2]] w fun e w'=>e=.returned (.bool r)∧Below w.heap.size w w':=by
 have hu51:=Tryz.underlying51;have HB:=qa (Below.refl w.heap.size w);have H:=h;unfold impl_IsClue.f at H;clear h;have HC3:=Aside0.mk H;clear H;go_enter Tryz.func50,Tryz.ntmps50;go_upto_block 0 with (first|(refine zX (N:=3) (cs:=#[.int .i64 a1_0,.int .i64 a1_1,.int .i64 a1_2]) (t:=51) (h:=?_);intro gb1 hg _ hbox hb;have BK1:=qa hbox;have GE1:=qa (qz3:w.heap.size≤gb1);replace HB:=zs HB hb;clear hb hbox hg));(try simp only [Act.put,List.setIfInBounds_toArray,List.set_cons_zero,List.set_cons_succ]);go_cut [5,6,7] (fun v5 v6 v7 wc=>∃(kq:Nat) (x5_2:Int) (x6_2:Int) (x7_2:Int),v5=.int .i64 x5_2∧v6=.int .i64 x6_2∧v7=.int .i64 x7_2∧Aside0 (impl_IsClue.j0 kq a0 x5_2 x6_2 x7_2 a1_0 a1_1 a1_2=some r)∧Aside0 (kq≤k)∧Aside0 (wc.heap[gb1]? = some (.cells #[.int .i64 a1_0,.int .i64 a1_1,.int .i64 a1_2] 51 (0,0)))∧Aside0 (Below w.heap.size w wc))
 case first=>
  have H:=HC3.out;clear HC3;replace H:=zB H;obtain ⟨t1,A5,H⟩:=H;replace H:=zI H;rcases H with ⟨rfl,H⟩|⟨rfl,H⟩
  ·(try dsimp only at H);have H':=Aside0.mk H;clear H;have ⟨_,_,_,_,_,_⟩:=zC3 BK1.out;go_wp2_with (first|(refine zL 72 (some 11) Tryz.func72 #[.int .i64 a1_0] (h:=?_);refine (impl_isTwo.calls a1_0 true _ A5.out).mono ?_;rintro e w' ⟨rfl,⟨nd,rfl⟩⟩;refine ⟨_,rfl,?_⟩));go_meet
   case rel=>exact ⟨_,(1),(100),(100),qz23,qz23,qz23,H',⟨qz35⟩,⟨qz8⟩,⟨qz6⟩⟩
  (try dsimp only at H);replace H:=zS H;rcases H with ⟨c8,H⟩|⟨c8,H⟩
  ·have ⟨c8b0,c8b1⟩:=zEq c8;clear c8;(first|rw [c8b0]|(simp only [i64_w,i32_w];rw [c8b0])|skip);have H':=Aside0.mk H;clear H;have ⟨_,_,_,_,_,_⟩:=zC3 BK1.out;go_wp2_with (first|(refine zL 72 (some 11) Tryz.func72 #[.int .i64 a1_0] (h:=?_);refine (impl_isTwo.calls a1_0 false _ A5.out).mono ?_;rintro e w' ⟨rfl,⟨nd,rfl⟩⟩;refine ⟨_,rfl,?_⟩));go_meet
   case rel=>exact ⟨_,(0),(0),(1),qz23,qz23,qz23,H',⟨qz35⟩,⟨qz8⟩,⟨qz6⟩⟩
  have ⟨c8b0,c8b1⟩:=zNe c8;(first|rw [c8b0]|(simp only [i64_w,i32_w];rw [c8b0])|skip);have H':=Aside0.mk H;clear H;have ⟨_,_,_,_,_,_⟩:=zC3 BK1.out;go_wp2_with (first|(refine zL 72 (some 11) Tryz.func72 #[.int .i64 a1_0] (h:=?_);refine (impl_isTwo.calls a1_0 false _ A5.out).mono ?_;rintro e w' ⟨rfl,⟨nd,rfl⟩⟩;refine ⟨_,rfl,?_⟩));go_meet
  case rel=>exact ⟨_,(0),(0),(100),qz23,qz23,qz23,H',⟨qz35⟩,⟨qz8⟩,⟨qz6⟩⟩
 case rest=>
  clear HC3;obtain ⟨kq,x5_2,x6_2,x7_2,rfl,rfl,rfl,HA,HJ2,BK1,HB⟩:=hcut
  cases kq with
  | zero=>exact absurd HA.out (by simp [impl_IsClue.j0])
  | succ kj2=>
   have H:=HA.out;clear HA;simp only [impl_IsClue.j0] at H;replace H:=zB H;obtain ⟨t2,A11,H⟩:=H;replace H:=zI' H;rcases H with ⟨rfl,H⟩|⟨rfl,H⟩
   ·(try dsimp only at H);obtain rfl:=Option.some.inj H;go_wp2_with (first|(refine zL 47 (some 17) Tryz.func47 #[.int .i64 a0,.int .i64 1,.int .i64 8] (h:=?_);refine (impl_within.calls a0 1 8 false _ A11.out).mono ?_;rintro e w' ⟨rfl,⟨nd,rfl⟩⟩;refine ⟨_,rfl,?_⟩));go_ret;exact ⟨qz15,qz6⟩
   (try dsimp only at H);replace H:=zB H;obtain ⟨t3,A13,H⟩:=H;replace H:=zI' H;rcases H with ⟨rfl,H⟩|⟨rfl,H⟩
   ·(try dsimp only at H);obtain rfl:=Option.some.inj H;go_wp2_with (first|(refine zL 47 (some 17) Tryz.func47 #[.int .i64 a0,.int .i64 1,.int .i64 8] (h:=?_);refine (impl_within.calls a0 1 8 true _ A11.out).mono ?_;rintro e w' ⟨rfl,⟨nd,rfl⟩⟩;refine ⟨_,rfl,?_⟩;have ⟨_,_,_,_,_,_⟩:=zC3 BK1.out)|(go_at_call 47;(with_reducible refine (impl_within.calls a1_0 0 5 false _ A13.out).mono ?_);rintro e w' ⟨rfl,⟨nd,rfl⟩⟩));go_ret;exact ⟨qz15,qz6⟩
   (try dsimp only at H);replace H:=zB H;obtain ⟨t4,A15,H⟩:=H;replace H:=zI' H;rcases H with ⟨rfl,H⟩|⟨rfl,H⟩
   ·(try dsimp only at H);obtain rfl:=Option.some.inj H;go_wp2_with (first|(refine zL 47 (some 17) Tryz.func47 #[.int .i64 a0,.int .i64 1,.int .i64 8] (h:=?_);refine (impl_within.calls a0 1 8 true _ A11.out).mono ?_;rintro e w' ⟨rfl,⟨nd,rfl⟩⟩;refine ⟨_,rfl,?_⟩;have ⟨_,_,_,_,_,_⟩:=zC3 BK1.out)|(go_at_call 47;(with_reducible refine (impl_within.calls a1_0 0 5 true _ A13.out).mono ?_);rintro e w' ⟨rfl,⟨nd,rfl⟩⟩)|(go_at_call 47;(with_reducible refine (impl_within.calls a1_1 0 x6_2 false _ A15.out).mono ?_);rintro e w' ⟨rfl,⟨nd,rfl⟩⟩));go_ret;exact ⟨qz15,qz6⟩
   (try dsimp only at H);replace H:=zB H;obtain ⟨t5,A17,H⟩:=H;obtain rfl:=Option.some.inj H
   go_wp2_with (first|(refine zL 47 (some 17) Tryz.func47 #[.int .i64 a0,.int .i64 1,.int .i64 8] (h:=?_);refine (impl_within.calls a0 1 8 true _ A11.out).mono ?_;rintro e w' ⟨rfl,⟨nd,rfl⟩⟩;refine ⟨_,rfl,?_⟩;have ⟨_,_,_,_,_,_⟩:=zC3 BK1.out)|(go_at_call 47;(with_reducible refine (impl_within.calls a1_0 0 5 true _ A13.out).mono ?_);rintro e w' ⟨rfl,⟨nd,rfl⟩⟩)|(go_at_call 47;(with_reducible refine (impl_within.calls a1_1 0 x6_2 true _ A15.out).mono ?_);rintro e w' ⟨rfl,⟨nd,rfl⟩⟩)|(go_at_call 47;(with_reducible refine (impl_within.calls a1_2 x5_2 x7_2 t5 _ A17.out).mono ?_);rintro e w' ⟨rfl,⟨nd,rfl⟩⟩));go_ret;exact ⟨qz15,qz6⟩
def anyO (f:S51→Option Bool):List S51→Option Bool
  | []=>some false
  | x::xs=>(f x).bind fun b=>if b=true then some true else anyO f xs
theorem anyO_mono {f g:S51→Option Bool} (h:∀x,LeO (f x) (g x)):∀xs,LeO (anyO f xs) (anyO g xs)
  | []=>LeO.refl _
  | x::xs=>by
    intro r hr
    simp only [anyO] at hr ⊢
    obtain ⟨b,hb,hr⟩:=Option.bind_eq_some_iff.mp hr
    rw [h x b hb];simp only [Option.bind_some]
    cases b with
    | true=>exact hr
    | false=>exact anyO_mono h xs r hr
theorem anyO_at (f:S51→Option Bool) (xs:List S51) (j:Nat) (h:j<xs.length) (r:Bool) (H:anyO f (xs.drop j)=some r) :
    ∃b,f (rd_T51 xs (j:Int))=some b∧(b=true→r=true)∧(b=false→anyO f (xs.drop (j+1))=some r):=by
  rw [List.drop_eq_getElem_cons h] at H
  simp only [anyO] at H
  obtain ⟨b,hb,H⟩:=Option.bind_eq_some_iff.mp H
  have e:rd_T51 xs (j:Int)=xs[j]:=by unfold rd_T51;simp [h]
  refine ⟨b,by rw [e];exact hb,?_,?_⟩
  · rintro rfl;simpa using H.symm
  · rintro rfl;simpa using H
def IdxPost (r:Bool) (w:World) (e:Ending) (w':World):Prop:=∃i:Int,e=.returned (.int .i64 i)∧decide (0≤i)=r∧Below w.heap.size w w'
set_option maxHeartbeats 4000000 in
set_option maxRecDepth 100000 in
theorem indexFunc_calls (g:Nat) (lb:Array Value) (eg:∀args w,(callFunc g args).run Tryz.prog w=.ok (.enter g args) w) (f:S51→Option Bool) (A0:Option Addr) (c0:Nat) (l0:List S51) (r:Bool) (w:World)
    (hr0:Kd.C k51 w A0 l0.length l0) (hl:l0.length≤1000000)
    (hp:∀(W:World) (x:S51) (b:Bool),Below w.heap.size w W→f x=some b→Calls Tryz.prog g (#[.agg #[.int .i64 x.f0,.int .i64 x.f1,.int .i64 x.f2]]++lb) W fun e w'=>e=.returned (.bool b)∧Below w.heap.size w w')
    (h:anyO f l0=some r):Calls Tryz.prog 71 #[.slice A0 l0.length c0,.func (.func g) #[] lb] w (IdxPost r w):=by
  have HR:=Aside0.mk hr0
  have HP:=Aside0.mk hp
  have HA:=Aside0.mk h
  have HL:=Aside0.mk hl
  clear hr0 hp h hl
  go_enter Tryz.func71,Tryz.ntmps71
  go_wp2
  go_loopg [5,8] l0.length (fun gg _ s8 wr=>∃kk:Nat,kk≤l0.length∧l0.length - kk≤gg∧s8=.int .i64 kk∧Aside0 (Below w.heap.size w wr)∧Aside0 (anyO f (l0.drop kk)=some r))
  case atStart=>exact ⟨0,Nat.zero_le _,by omega,rfl,⟨Below.refl _ w⟩,⟨HA.out⟩⟩
  case round=>
    obtain ⟨kk,hkk,hg,rfl,BW,AW⟩:=hrel
    by_cases hlt:kk<l0.length
    · have hltz:(kk:Int)<(l0.length:Int):=by omega
      obtain ⟨b,hb,ht,hf⟩:=anyO_at f l0 kk hlt r AW.out
      have hcall:=HP.out wr _ b BW.out hb
      have HT:=Aside0.mk ht
      have HF:=Aside0.mk hf
      clear hb ht hf
      obtain ⟨ad,e_,h0,h1,h2⟩:=at_T51 HR.out kk (by omega) hltz
      cases e_
      replace h0:=(BW.out.cell (World.block_lt_of_cell? w _ h0)).trans h0
      replace h1:=(BW.out.cell (World.block_lt_of_cell? w _ h1)).trans h1
      replace h2:=(BW.out.cell (World.block_lt_of_cell? w _ h2)).trans h2
      simp only [Int.toNat_natCast] at h0 h1 h2
      cases b with
      | true=>
        go_wp2_with fail
        refine hcall.mono ?_
        clear hcall
        rintro e w' ⟨rfl,hb'⟩
        go_wp2_with fail
        go_ret
        exact ⟨kk,rfl,by rw [HT.out trivial];simp,hb'⟩
      | false=>
        go_wp2_with fail
        refine hcall.mono ?_
        clear hcall
        rintro e w' ⟨rfl,hb'⟩
        go_wp2_with fail
        have hl:=HL.out
        have ew:wrap64 ((kk:Int)+1)=((kk+1:Nat):Int):=by unfold wrap64;omega
        go_roundg (l0.length - (kk+1))
        case measure=>omega
        case rel=>exact ⟨kk+1,by omega,by omega,by first|rfl|rw [ew]|simp only [ew],⟨hb'⟩,⟨HF.out trivial⟩⟩
    · have hltz:¬(kk:Int)<(l0.length:Int):=by omega
      have HE:Aside0 (r=false):=by
        have h9:=AW.out
        rw [List.drop_eq_nil_of_le (by omega)] at h9
        simp only [anyO] at h9
        exact ⟨(Option.some.inj h9).symm⟩
      go_wp2
      go_ret
      exact ⟨-1,rfl,by rw [HE.out];rfl,BW.out⟩
set_option maxHeartbeats 4000000 in
set_option maxRecDepth 100000 in
theorem containsFunc_calls (g:Nat) (lb:Array Value) (eg:∀args w,(callFunc g args).run Tryz.prog w=.ok (.enter g args) w) (f:S51→Option Bool) (A0:Option Addr) (c0:Nat) (l0:List S51) (r:Bool) (w:World)
    (hr0:Kd.C k51 w A0 l0.length l0) (hl:l0.length≤1000000)
    (hp:∀(W:World) (x:S51) (b:Bool),Below w.heap.size w W→f x=some b→Calls Tryz.prog g (#[.agg #[.int .i64 x.f0,.int .i64 x.f1,.int .i64 x.f2]]++lb) W fun e w'=>e=.returned (.bool b)∧Below w.heap.size w w')
    (h:anyO f l0=some r):Calls Tryz.prog 48 #[.slice A0 l0.length c0,.func (.func g) #[] lb] w fun e w'=>e=.returned (.bool r)∧Below w.heap.size w w':=by
  have hI:=Aside0.mk (indexFunc_calls g lb eg f A0 c0 l0 r w hr0 hl hp h)
  clear hr0 hp h
  go_enter Tryz.func48,Tryz.ntmps48
  go_wp2_with (go_at_call 71;refine hI.out.mono ?_;rintro e w' ⟨i,rfl,hi,hb⟩;have HI:=Aside0.mk hi;have HB:=Aside0.mk hb;clear hi hb)
  go_ret
  exact ⟨by rw [← HI.out];rfl,HB.out⟩
set_option maxHeartbeats 4000000 in
set_option maxRecDepth 100000 in
theorem pz_closure (k:Nat) (x:S51) (of:Int) (g:Nat) (r:Bool) (w:World) (hc:w.cell? ⟨g,0,none⟩=some (.int .i64 of)) (h:impl_IsClue.f k of x.f0 x.f1 x.f2=some r) :
    Calls Tryz.prog 49 #[.agg #[.int .i64 x.f0,.int .i64 x.f1,.int .i64 x.f2],.pointer (some ⟨g,0,none⟩)] w fun e w'=>e=.returned (.bool (!r))∧Below w.heap.size w w':=by
  have hu51:=Tryz.underlying51
  have hu26:=Tryz.underlying26
  have HB:=Aside0.mk (Below.refl w.heap.size w)
  have A:=Aside0.mk h
  clear h
  have hg:=World.block_lt_of_cell? w _ hc
  have hne:g≠w.heap.size:=Nat.ne_of_lt hg
  go_enter Tryz.func49,Tryz.ntmps49
  go_wp2_with (go_at_call 50;(with_reducible refine (impl_IsClue.calls k of x.f0 x.f1 x.f2 r _ A.out).mono ?_);rintro e w' ⟨rfl,hb⟩;have HB2:=Aside0.mk hb;clear hb)
  go_ret
  exact ⟨rfl,below_step (below_alloc HB.out _) HB2.out⟩
def impl_Clue_48.f (k:Nat) (l0:List S51) (a1:Int):Option Bool:=if l0.length≤1000000 then anyO (fun x=>(impl_IsClue.f k a1 x.f0 x.f1 x.f2).bind fun b=>some (!b)) l0 else none
theorem impl_Clue_48.mono:∀a0 a1 k,LeO (impl_Clue_48.f k a0 a1) (impl_Clue_48.f (k+1) a0 a1):=by
  intro a0 a1 k
  unfold impl_Clue_48.f
  refine LeO.ite (anyO_mono (fun x=>?_) _) (LeO.none _)
  exact LeO.bind (impl_IsClue.mono _ _ _ _ _) (fun _=>LeO.refl _)
theorem impl_Clue_48.calls (k:Nat) (g:Nat) (A0:Option Addr) (c0:Nat) (l0:List S51) (a1:Int) (r:Bool) (w:World) (hr0:Kd.C k51 w A0 l0.length l0) (hc:w.cell? ⟨g,0,none⟩=some (.int .i64 a1)) (h:impl_Clue_48.f k l0 a1=some r) :
    Calls Tryz.prog 48 #[.slice A0 l0.length c0,.func (.func 49) #[] #[.pointer (some ⟨g,0,none⟩)]] w fun e w'=>e=.returned (.bool r)∧Below w.heap.size w w':=by
 unfold impl_Clue_48.f at h;by_cases hl:l0.length≤1000000;rotate_left
 ·rw [if_neg hl] at h;cases h
 rw [if_pos hl] at h;refine containsFunc_calls 49 _ (fun args w=>by kernel_rfl) _ A0 c0 l0 r w hr0 hl (fun W x b hb hx=>?_) h;obtain ⟨b',hb',e⟩:=Option.bind_eq_some_iff.mp hx;obtain rfl:=Option.some.inj e;refine (pz_closure k x a1 g b' W ((hb.cell (World.block_lt_of_cell? w _ hc)).trans hc) hb').mono ?_;rintro e w' ⟨rfl,hb2⟩;exact ⟨rfl,below_step hb hb2⟩
def impl_IsPuzzle.f (k:Nat) (a0_0:Int) (l0_1:List (S51)):Option (Bool):=(impl_within.f a0_0 1 8).bind fun t252=>(if t252=true then (if (l0_1.length:Int)≤6 then ((impl_Clue_48.f k l0_1 a0_0).bind fun t253=>(some (!t253))) else (some false)) else (some false))
theorem impl_IsPuzzle.mono:∀a0 a1 k,LeO (impl_IsPuzzle.f k a0 a1) (impl_IsPuzzle.f (k+1) a0 a1):=by
  intro a0 a1 k
  unfold impl_IsPuzzle.f
  repeat' first
   | with_reducible first|exact impl_Clue_48.mono _ _ _|exact LeO.refl _|exact LeO.none _|refine LeO.ite ?_ ?_|refine LeO.bind ?_ (fun _=>?_)
set_option maxHeartbeats 8000000 in
set_option maxRecDepth 100000 in
theorem impl_IsPuzzle.calls (k:Nat) (a0_0:Int) (A0_1:Option Addr) (c0_1:Nat) (l0_1:List (S51)) (r:Bool) (w:World) (hr0_1:Kd.C k51 w A0_1 l0_1.length l0_1) (hc0_1:l0_1.length≤c0_1) (h:impl_IsPuzzle.f k a0_0 l0_1=some r) :
    Calls Tryz.prog 26 #[.agg #[.int .i64 a0_0,.slice A0_1 l0_1.length c0_1]] w fun e w'=>e=.returned (.bool r)∧Below w.heap.size w w':=by
 have hu26:=Tryz.underlying26;have HR0_1:=Aside0.mk hr0_1;have HC0_1:=Aside0.mk hc0_1;clear hr0_1 hc0_1;have HB:=qa (Below.refl w.heap.size w);have H:=h;unfold impl_IsPuzzle.f at H;clear h;replace H:=zB H;obtain ⟨t1,A2,H⟩:=H;replace H:=zI' H;rcases H with ⟨rfl,H⟩|⟨rfl,H⟩
 ·(try dsimp only at H);obtain rfl:=Option.some.inj H;go_enter Tryz.func26,Tryz.ntmps26
  go_wp2_with (first|((with_reducible refine gate_dst (N:=1) rfl ?_);(try (refine gate_guard (by rfl) ?_;dsimp only));refine box_event ?hg (N:=1) ?hd (cs:=#[.int .i64 a0_0,.slice A0_1 l0_1.length c0_1]) (t:=26) ?hr ?_;(case hd=>rfl);(case hg=>rfl);(case hr=>exact qz37);intro gb1 hg _ hbox hb;have BK1:=qa hbox;have GE1:=qa (qz3:w.heap.size≤gb1);replace HB:=zs HB hb;clear hb hbox hg;have ⟨_,_,_,_⟩:=zC2 BK1.out)|(refine zL 47 (some 5) Tryz.func47 #[.int .i64 a0_0,.int .i64 1,.int .i64 8] (h:=?_);refine (impl_within.calls a0_0 1 8 false _ A2.out).mono ?_;rintro e w' ⟨rfl,⟨nd,rfl⟩⟩;refine ⟨_,rfl,?_⟩));go_ret;exact ⟨qz15,qz6⟩
 (try dsimp only at H);replace H:=zS' H;rcases H with ⟨c4,H⟩|⟨c4,H⟩
 ·have c4b0:=decide_eq_false c4;have c4b1:decide (l0_1.length≤6)=false:=decide_eq_false (by omega);clear c4;obtain rfl:=Option.some.inj H;go_enter Tryz.func26,Tryz.ntmps26
  go_wp2_with (first|((with_reducible refine gate_dst (N:=1) rfl ?_);(try (refine gate_guard (by rfl) ?_;dsimp only));refine box_event ?hg (N:=1) ?hd (cs:=#[.int .i64 a0_0,.slice A0_1 l0_1.length c0_1]) (t:=26) ?hr ?_;(case hd=>rfl);(case hg=>rfl);(case hr=>exact qz37);intro gb1 hg _ hbox hb;have BK1:=qa hbox;have GE1:=qa (qz3:w.heap.size≤gb1);replace HB:=zs HB hb;clear hb hbox hg;have ⟨_,_,_,_⟩:=zC2 BK1.out)|(refine zL 47 (some 5) Tryz.func47 #[.int .i64 a0_0,.int .i64 1,.int .i64 8] (h:=?_);refine (impl_within.calls a0_0 1 8 true _ A2.out).mono ?_;rintro e w' ⟨rfl,⟨nd,rfl⟩⟩;refine ⟨_,rfl,?_⟩));go_ret;exact ⟨qz15,qz6⟩
 have c4b0:=decide_eq_true c4;have c4b1:decide (l0_1.length≤6)=true:=decide_eq_true (by omega);clear c4;replace H:=zB H;obtain ⟨t2,A5,H⟩:=H;obtain rfl:=Option.some.inj H;go_enter Tryz.func26,Tryz.ntmps26
 go_wp2_with (first|((with_reducible refine gate_dst (N:=1) rfl ?_);(try (refine gate_guard (by rfl) ?_;dsimp only));refine box_event ?hg (N:=1) ?hd (cs:=#[.int .i64 a0_0,.slice A0_1 l0_1.length c0_1]) (t:=26) ?hr ?_;(case hd=>rfl);(case hg=>rfl);(case hr=>exact qz37);intro gb1 hg _ hbox hb;have BK1:=qa hbox;have GE1:=qa (qz3:w.heap.size≤gb1);replace HB:=zs HB hb;clear hb hbox hg;have ⟨_,_,_,_⟩:=zC2 BK1.out)|(refine zL 47 (some 5) Tryz.func47 #[.int .i64 a0_0,.int .i64 1,.int .i64 8] (h:=?_);refine (impl_within.calls a0_0 1 8 true _ A2.out).mono ?_;rintro e w' ⟨rfl,⟨nd,rfl⟩⟩;refine ⟨_,rfl,?_⟩)|(go_at_call 48;(with_reducible refine (impl_Clue_48.calls k gb1 _ _ l0_1 a0_0 t2 _ ?side1 ?side2 A5.out).mono ?_);(case side1=>repeat (first|exact (Kd.C_below HR0_1.out qz6)|(with_reducible refine Kd.C_alloc ?_ _)|(with_reducible refine Kd.C_drewN ?_ _)|(with_reducible refine Kd.C_drew ?_)));(case side2=>exact (blk_cell qz8 0).trans rfl);rintro e _ ⟨rfl,hb⟩;replace BK1:=zBb BK1 hb;replace HB:=qa (below_step qz6 hb);clear hb))
 go_ret;exact ⟨qz15,qz6⟩
def impl_IsChain.f (a0_0:Int) (a0_1:Int) (a0_2:Int):Option (Bool):=(impl_within.f a0_2 1 10).bind fun t255=>(if t255=true then ((impl_within.f a0_0 0 a0_2).bind fun t256=>(if t256=true then ((impl_within.f a0_1 0 a0_2).bind fun t257=>(some t257)) else (some false))) else (some false))
set_option maxHeartbeats 8000000 in
set_option maxRecDepth 100000 in
theorem impl_IsChain.calls (a0_0:Int) (a0_1:Int) (a0_2:Int) (r:Bool) (w:World) (h:impl_IsChain.f a0_0 a0_1 a0_2=some r) :
    Calls Tryz.prog 28 #[.agg #[.int .i64 a0_0,.int .i64 a0_1,.int .i64 a0_2]] w fun e w'=>e=.returned (.bool r)∧Below w.heap.size w w':=by
 have hu34:=Tryz.underlying34;have HB:=qa (Below.refl w.heap.size w);have H:=h;unfold impl_IsChain.f at H;clear h;replace H:=zB H;obtain ⟨t1,A2,H⟩:=H;replace H:=zI' H;rcases H with ⟨rfl,H⟩|⟨rfl,H⟩
 ·(try dsimp only at H);obtain rfl:=Option.some.inj H;go_enter Tryz.func28,Tryz.ntmps28
  go_wp2_with (first|(refine zX (N:=1) (cs:=#[.int .i64 a0_0,.int .i64 a0_1,.int .i64 a0_2]) (t:=34) (h:=?_);intro gb1 hg _ hbox hb;have BK1:=qa hbox;have GE1:=qa (qz3:w.heap.size≤gb1);replace HB:=zs HB hb;clear hb hbox hg;have ⟨_,_,_,_,_,_⟩:=zC3 BK1.out)|(refine zL 47 (some 5) Tryz.func47 #[.int .i64 a0_2,.int .i64 1,.int .i64 10] (h:=?_);refine (impl_within.calls a0_2 1 10 false _ A2.out).mono ?_;rintro e w' ⟨rfl,⟨nd,rfl⟩⟩;refine ⟨_,rfl,?_⟩));go_ret;exact ⟨qz15,qz6⟩
 (try dsimp only at H);replace H:=zB H;obtain ⟨t2,A4,H⟩:=H;replace H:=zI' H;rcases H with ⟨rfl,H⟩|⟨rfl,H⟩
 ·(try dsimp only at H);obtain rfl:=Option.some.inj H;go_enter Tryz.func28,Tryz.ntmps28
  go_wp2_with (first|(refine zX (N:=1) (cs:=#[.int .i64 a0_0,.int .i64 a0_1,.int .i64 a0_2]) (t:=34) (h:=?_);intro gb1 hg _ hbox hb;have BK1:=qa hbox;have GE1:=qa (qz3:w.heap.size≤gb1);replace HB:=zs HB hb;clear hb hbox hg;have ⟨_,_,_,_,_,_⟩:=zC3 BK1.out)|(refine zL 47 (some 5) Tryz.func47 #[.int .i64 a0_2,.int .i64 1,.int .i64 10] (h:=?_);refine (impl_within.calls a0_2 1 10 true _ A2.out).mono ?_;rintro e w' ⟨rfl,⟨nd,rfl⟩⟩;refine ⟨_,rfl,?_⟩)|(go_at_call 47;(with_reducible refine (impl_within.calls a0_0 0 a0_2 false _ A4.out).mono ?_);rintro e w' ⟨rfl,⟨nd,rfl⟩⟩));go_ret;exact ⟨qz15,qz6⟩
 (try dsimp only at H);replace H:=zB H;obtain ⟨t3,A6,H⟩:=H;obtain rfl:=Option.some.inj H;go_enter Tryz.func28,Tryz.ntmps28
 go_wp2_with (first|(refine zX (N:=1) (cs:=#[.int .i64 a0_0,.int .i64 a0_1,.int .i64 a0_2]) (t:=34) (h:=?_);intro gb1 hg _ hbox hb;have BK1:=qa hbox;have GE1:=qa (qz3:w.heap.size≤gb1);replace HB:=zs HB hb;clear hb hbox hg;have ⟨_,_,_,_,_,_⟩:=zC3 BK1.out)|(refine zL 47 (some 5) Tryz.func47 #[.int .i64 a0_2,.int .i64 1,.int .i64 10] (h:=?_);refine (impl_within.calls a0_2 1 10 true _ A2.out).mono ?_;rintro e w' ⟨rfl,⟨nd,rfl⟩⟩;refine ⟨_,rfl,?_⟩)|(go_at_call 47;(with_reducible refine (impl_within.calls a0_0 0 a0_2 true _ A4.out).mono ?_);rintro e w' ⟨rfl,⟨nd,rfl⟩⟩)|(go_at_call 47;(with_reducible refine (impl_within.calls a0_1 0 a0_2 t3 _ A6.out).mono ?_);rintro e w' ⟨rfl,⟨nd,rfl⟩⟩))
 go_ret;exact ⟨qz15,qz6⟩
def impl_isDay.f (a0:ByteArray):Option (Bool):=if a0.toList=([100]:List UInt8) then (some true) else (some (a0.toList==([119]:List UInt8)))
set_option maxHeartbeats 8000000 in
set_option maxRecDepth 100000 in
theorem impl_isDay.calls (a0:ByteArray) (r:Bool) (w:World) (h:impl_isDay.f a0=some r) :
    Calls Tryz.prog 109 #[.string a0] w fun e w'=>e=.returned (.bool r)∧Drawn0 w w':=by
 have H:=h;unfold impl_isDay.f at H;clear h;replace H:=zS H;rcases H with ⟨c2,H⟩|⟨c2,H⟩
 ·have ⟨c2b0,c2b1⟩:=zEq c2;clear c2;obtain rfl:=Option.some.inj H;go_enter Tryz.func109,Tryz.ntmps109;go_wp2;go_ret;exact ⟨qz23,qz85⟩
 have ⟨c2b0,c2b1⟩:=zNe c2;obtain rfl:=Option.some.inj H;go_enter Tryz.func109,Tryz.ntmps109;go_wp2;go_ret;exact ⟨qz23,qz85⟩
def impl_Chain_mixes.f (a0_0:Int) (a0_1:Int) (a0_2:Int):Option (Bool):=if a0_0>0 then (some (decide (a0_1>0))) else (some false)
set_option maxHeartbeats 8000000 in
set_option maxRecDepth 100000 in
theorem impl_Chain_mixes.calls (a0_0:Int) (a0_1:Int) (a0_2:Int) (r:Bool) (w:World) (h:impl_Chain_mixes.f a0_0 a0_1 a0_2=some r) :
    Calls Tryz.prog 110 #[.agg #[.int .i64 a0_0,.int .i64 a0_1,.int .i64 a0_2]] w fun e w'=>e=.returned (.bool r)∧Below w.heap.size w w':=by
 have hu34:=Tryz.underlying34;have HB:=qa (Below.refl w.heap.size w);have H:=h;unfold impl_Chain_mixes.f at H;clear h;replace H:=zD H;rcases H with ⟨c2b0,H⟩|⟨c2b0,H⟩
 ·obtain rfl:=Option.some.inj H;go_enter Tryz.func110,Tryz.ntmps110;go_wp2_with (first|(refine zX (N:=1) (cs:=#[.int .i64 a0_0,.int .i64 a0_1,.int .i64 a0_2]) (t:=34) (h:=?_);intro gb1 hg _ hbox hb;have BK1:=qa hbox;have GE1:=qa (qz3:w.heap.size≤gb1);replace HB:=zs HB hb;clear hb hbox hg;have ⟨_,_,_,_,_,_⟩:=zC3 BK1.out));go_ret;exact ⟨qz15,qz6⟩
 obtain rfl:=Option.some.inj H;go_enter Tryz.func110,Tryz.ntmps110;go_wp2_with (first|(refine zX (N:=1) (cs:=#[.int .i64 a0_0,.int .i64 a0_1,.int .i64 a0_2]) (t:=34) (h:=?_);intro gb1 hg _ hbox hb;have BK1:=qa hbox;have GE1:=qa (qz3:w.heap.size≤gb1);replace HB:=zs HB hb;clear hb hbox hg;have ⟨_,_,_,_,_,_⟩:=zC3 BK1.out));go_ret;exact ⟨qz15,qz6⟩
def impl_Chain_leave.f (a0_0:Int) (a0_1:Int) (a0_2:Int) (a1:Int):Option (Int):=if a1=100 then (some a0_0) else (some a0_1)
set_option maxHeartbeats 8000000 in
set_option maxRecDepth 100000 in
theorem impl_Chain_leave.calls (a0_0:Int) (a0_1:Int) (a0_2:Int) (a1:Int) (r:Int) (w:World) (h:impl_Chain_leave.f a0_0 a0_1 a0_2 a1=some r) :
    Calls Tryz.prog 113 #[.agg #[.int .i64 a0_0,.int .i64 a0_1,.int .i64 a0_2],.int .u8 a1] w fun e w'=>e=.returned (.int .i64 r)∧Below w.heap.size w w':=by
 have hu34:=Tryz.underlying34;have HB:=qa (Below.refl w.heap.size w);have H:=h;unfold impl_Chain_leave.f at H;clear h;replace H:=zS H;rcases H with ⟨c3,H⟩|⟨c3,H⟩
 ·have ⟨c3b0,c3b1⟩:=zEq c3;clear c3;obtain rfl:=Option.some.inj H;go_enter Tryz.func113,Tryz.ntmps113;go_wp2_with (first|(refine zX (N:=2) (cs:=#[.int .i64 a0_0,.int .i64 a0_1,.int .i64 a0_2]) (t:=34) (h:=?_);intro gb1 hg _ hbox hb;have BK1:=qa hbox;have GE1:=qa (qz3:w.heap.size≤gb1);replace HB:=zs HB hb;clear hb hbox hg;have ⟨_,_,_,_,_,_⟩:=zC3 BK1.out));go_ret;exact ⟨qz15,qz6⟩
 have ⟨c3b0,c3b1⟩:=zNe c3;obtain rfl:=Option.some.inj H;go_enter Tryz.func113,Tryz.ntmps113;go_wp2_with (first|(refine zX (N:=2) (cs:=#[.int .i64 a0_0,.int .i64 a0_1,.int .i64 a0_2]) (t:=34) (h:=?_);intro gb1 hg _ hbox hb;have BK1:=qa hbox;have GE1:=qa (qz3:w.heap.size≤gb1);replace HB:=zs HB hb;clear hb hbox hg;have ⟨_,_,_,_,_,_⟩:=zC3 BK1.out));go_ret;exact ⟨qz15,qz6⟩
def impl_common.l0:Nat→Int→Int→Option (Int)
  | 0,_,_=>none
  | k+1,x0,x1=>if x1=0 then (some x0) else (impl_common.l0 k x1 (Int.tmod x0 x1))
def impl_common.f (k:Nat) (a0:Int) (a1:Int):Option (Int):=impl_common.l0 k (mx a0 (wrap64 (-a0))) (mx a1 (wrap64 (-a1)))
theorem impl_common.mono_l:∀k,(∀y0 y1,LeO (impl_common.l0 k y0 y1) (impl_common.l0 (k+1) y0 y1))
  | 0=>fun _ _ r h=>by simp [impl_common.l0] at h
  | k+1=>by
    have ih0:=impl_common.mono_l k
    · intro y0 y1
      unfold impl_common.l0
      repeat' first
   | with_reducible first|exact ih0 _ _|exact LeO.refl _|exact LeO.none _|refine LeO.ite ?_ ?_|refine LeO.bind ?_ (fun _=>?_)
theorem impl_common.mono:∀a0 a1 k,LeO (impl_common.f k a0 a1) (impl_common.f (k+1) a0 a1):=by
  intro a0 a1 k
  have ih0:=impl_common.mono_l k
  unfold impl_common.f
  repeat' first
   | with_reducible first|exact ih0 _ _|exact LeO.refl _|exact LeO.none _|refine LeO.ite ?_ ?_|refine LeO.bind ?_ (fun _=>?_)
set_option maxHeartbeats 8000000 in
set_option maxRecDepth 100000 in
theorem impl_common.calls (k:Nat) (a0:Int) (a1:Int) (r:Int) (w:World) (h:impl_common.f k a0 a1=some r) :
    Calls Tryz.prog 134 #[.int .i64 a0,.int .i64 a1] w fun e w'=>e=.returned (.int .i64 r)∧Below w.heap.size w w':=by
 have HB:=qa (Below.refl w.heap.size w);have H:=h;unfold impl_common.f at H;clear h;obtain ⟨ji3,hji3⟩:∃j_:Int,(mx a0 (wrap64 (-a0)))=j_:=⟨_,rfl⟩;replace H:(impl_common.l0 k ji3 (mx a1 (wrap64 (-a1))))=some r:=by first|(rw [hji3] at H;exact H)|(simp only [hji3] at H ⊢;exact H)
 have hji3_:(if a0<(wrap64 (-a0)) then (wrap64 (-a0)) else a0)=ji3:=hji3;obtain ⟨ji4,hji4⟩:∃j_:Int,(mx a1 (wrap64 (-a1)))=j_:=⟨_,rfl⟩;replace H:(impl_common.l0 k ji3 ji4)=some r:=by first|(rw [hji4] at H;exact H)|(simp only [hji4] at H ⊢;exact H)
 have hji4_:(if a1<(wrap64 (-a1)) then (wrap64 (-a1)) else a1)=ji4:=hji4;have H':=Aside0.mk H;clear H;go_enter Tryz.func134,Tryz.ntmps134;go_wp2;(repeat (go_quiet (fail);try go_wp2));go_loopg [0,1] k (fun kq v0 v1 w'=>∃(x0_1:Int) (x1_1:Int),v0=.int .i64 x0_1∧v1=.int .i64 x1_1∧Aside0 (impl_common.l0 kq x0_1 x1_1=some r)∧Aside0 (kq≤k)∧Aside0 (Below w.heap.size w w'))
 case atStart=>exact ⟨(ji3),(ji4),(by first|rfl|(simp;done)|(simp only [← hji3] <;> (first|rfl|simp))|(simp [*];done)),(by first|rfl|(simp;done)|(simp only [← hji4] <;> (first|rfl|simp))|(simp [*];done)),H',⟨Nat.le_refl _⟩,⟨qz4⟩⟩
 case round=>
  clear H';obtain ⟨x0_1,x1_1,rfl,rfl,HA,HK1,HB⟩:=hrel
  cases gk with
  | zero=>exact absurd HA.out (by simp [impl_common.l0])
  | succ k1=>
   have H:=HA.out;clear HA;simp only [impl_common.l0] at H;replace H:=zS H;rcases H with ⟨c5,H⟩|⟨c5,H⟩
   ·have ⟨c5b0,c5b1⟩:=zEq c5;clear c5;obtain rfl:=Option.some.inj H;go_wp2;(repeat (go_quiet (fail);try go_wp2));go_ret;exact ⟨by first|rfl|(simp [errW_none,errW_some] <;> rfl)|(simp only [← hji3,← hji4];first|rfl|(simp [errW_none,errW_some] <;> rfl))|(simp [*,errW_none,errW_some] <;> rfl),qz4⟩
   have ⟨c5b0,c5b1⟩:=zNe c5;have H':=Aside0.mk H;clear H;go_wp2;(repeat (go_quiet (fail);try go_wp2));go_roundg k1
   case measure=>have:=HK1.out;omega
   case rel=>exact ⟨(x1_1),(Int.tmod x0_1 x1_1),qz23,qz23,H',⟨qz55⟩,⟨qz4⟩⟩
def impl_lowest.f (k:Nat) (a0:Int) (a1:Int):Option (Int×Int):=(impl_common.f k a0 a1).bind fun t261=>(if a1<0 then (if (wrap64 (-t261))=0 then (none) else (some (wrap64 (Int.tdiv a0 (wrap64 (-t261))),wrap64 (Int.tdiv a1 (wrap64 (-t261)))))) else (if t261=0 then (none) else (some (wrap64 (Int.tdiv a0 t261),wrap64 (Int.tdiv a1 t261)))))
theorem impl_lowest.mono:∀a0 a1 k,LeO (impl_lowest.f k a0 a1) (impl_lowest.f (k+1) a0 a1):=by
  intro a0 a1 k
  unfold impl_lowest.f
  repeat' first
   | with_reducible first|exact impl_common.mono _ _ _|exact LeO.refl _|exact LeO.none _|refine LeO.ite ?_ ?_|refine LeO.bind ?_ (fun _=>?_)
def impl_lowest.T4:Bool×List (List Nat×List Nat):=(true,[([],[]),([],[]),([0,1],[0,1]),([],[]),([],[]),([3,4],[3,4]),([2,5],[2,5]),([6,0,1,2,3,4,5,6],[6])])
def impl_lowest.B4:List Nat:=[0,0,3,0,0,24,63,127]
theorem impl_lowest.tab4:rtab .any (opsOf Tryz.f114 4)=impl_lowest.T4:=by kernel_rfl
theorem impl_lowest.bits4:waitsOk impl_lowest.T4.2 impl_lowest.B4=true:=by kernel_rfl
set_option maxHeartbeats 8000000 in
set_option maxRecDepth 100000 in
theorem impl_lowest.calls (k:Nat) (a0:Int) (a1:Int) (r1:Int) (r2:Int) (w:World) (h:impl_lowest.f k a0 a1=some (r1,r2)) :
    Calls Tryz.prog 114 #[.int .i64 a0,.int .i64 a1] w fun e w'=>e=.returned (.agg #[.int .i64 r1,.int .i64 r2])∧Below w.heap.size w w':=by
 have hu128:=Tryz.underlying128;have HB:=qa (Below.refl w.heap.size w);have H:=h;unfold impl_lowest.f at H;clear h;replace H:=zB H;obtain ⟨t1,A3,H⟩:=H;replace H:=zD H;rcases H with ⟨c4b0,H⟩|⟨c4b0,H⟩
 ·replace H:=zSg H;obtain ⟨c5,H⟩:=H;have ⟨c5b0,c5b1⟩:=zNe c5;simp only [Option.some.injEq,Prod.mk.injEq] at H;obtain ⟨rfl,rfl⟩:=H;go_enter Tryz.func114,Tryz.ntmps114
  (try go_wp2_with (first|(refine zX (N:=4) (cs:=#[.int .i64 0,.int .i64 0]) (t:=128) (h:=?_);intro gb1 hg _ hbox hb;have BK1:=qa hbox;have GE1:=qa (qz3:w.heap.size≤gb1);replace HB:=zs HB hb;clear hb hbox hg)|(refine zL 134 (some 8) Tryz.func134 #[.int .i64 a0,.int .i64 a1] (h:=?_);refine (impl_common.calls k a0 a1 t1 _ A3.out).mono ?_;rintro e w7 ⟨rfl,hb⟩;refine ⟨_,rfl,?_⟩;replace BK1:=zBb BK1 hb;replace HB:=qa (below_step qz6 hb);clear hb)));replace BK1:=zBd BK1;replace HB:=zHd HB;refine start_ (n:=8) (S:=fun w'=>True) (ds:=[]) (bq 0 0 0 8) qz2 rfl rfl trivial (fun hHeld=>?_);refine with_tabW impl_lowest.tab4 impl_lowest.bits4 (fun HT_ HW_=>?_)
  generalize w7.drew=w8 at BK1 HB hHeld ⊢;refine zrp 0 13 (h:=?_);(iterate 6 refine znp (h:=?_));refine zO (i:=7) (N:=none) (bq 8 0 255 8) (h:=fun K hK=>?_);have hs9:w8.cell? ⟨gb1,0,none⟩=some (.int .i64 0):=(blk_cell BK1.out 0).trans rfl;have hfs9:=blk_frozen BK1.out 0;have hs10:w8.cell? ⟨gb1,1,none⟩=some (.int .i64 0):=(blk_cell BK1.out 1).trans rfl;have hfs10:=blk_frozen BK1.out 1;refine skip_ (w1:=?_) (by rfl) rfl ?_ ?_;rotate_left
  ·go_simp;rfl
  refine hK.out _ _ trivial (fun hHeld=>?_);clear hK K;refine done_ (done_of HT_.out qz2) ?_;(try go_wp2)
  refine bodyPost_ret (results_cell_row rfl _ _ gb1 128 #[.int .i64 (wrap64 (Int.tdiv a0 (wrap64 (-t1)))),.int .i64 (wrap64 (Int.tdiv a1 (wrap64 (-t1))))] (0,0) _ rfl (by (with_reducible repeat (first|refine blk_drewN ?_ _|refine blk_drew ?_|refine blk_alloc ?_ _));refine blk_put (cs:=#[.int .i64 (wrap64 (Int.tdiv a0 (wrap64 (-t1)))),.int .i64 0]) ?_ 1 _ rfl;(with_reducible repeat (first|refine blk_drewN ?_ _|refine blk_drew ?_|refine blk_alloc ?_ _));refine blk_put (cs:=#[.int .i64 0,.int .i64 0]) ?_ 0 _ rfl;(with_reducible repeat (first|refine blk_drewN ?_ _|refine blk_drew ?_|refine blk_alloc ?_ _));exact BK1.out) Tryz.underlying128 rfl qz2) rfl ?_;exact ⟨qz15,qz6⟩
 replace H:=zSg H;obtain ⟨c11,H⟩:=H;have ⟨c11b0,c11b1⟩:=zNe c11;simp only [Option.some.injEq,Prod.mk.injEq] at H;obtain ⟨rfl,rfl⟩:=H;go_enter Tryz.func114,Tryz.ntmps114
 (try go_wp2_with (first|(refine zX (N:=4) (cs:=#[.int .i64 0,.int .i64 0]) (t:=128) (h:=?_);intro gb1 hg _ hbox hb;have BK1:=qa hbox;have GE1:=qa (qz3:w.heap.size≤gb1);replace HB:=zs HB hb;clear hb hbox hg)|(refine zL 134 (some 8) Tryz.func134 #[.int .i64 a0,.int .i64 a1] (h:=?_);refine (impl_common.calls k a0 a1 t1 _ A3.out).mono ?_;rintro e w13 ⟨rfl,hb⟩;refine ⟨_,rfl,?_⟩;replace BK1:=zBb BK1 hb;replace HB:=qa (below_step qz6 hb);clear hb)));replace BK1:=zBd BK1;replace HB:=zHd HB;refine start_ (n:=8) (S:=fun w'=>True) (ds:=[]) (bq 0 0 0 8) qz2 rfl rfl trivial (fun hHeld=>?_);refine with_tabW impl_lowest.tab4 impl_lowest.bits4 (fun HT_ HW_=>?_)
 generalize w13.drew=w14 at BK1 HB hHeld ⊢;refine zrp 0 13 (h:=?_);(iterate 6 refine znp (h:=?_));refine zO (i:=7) (N:=none) (bq 8 0 255 8) (h:=fun K hK=>?_);have hs15:w14.cell? ⟨gb1,0,none⟩=some (.int .i64 0):=(blk_cell BK1.out 0).trans rfl;have hfs15:=blk_frozen BK1.out 0;have hs16:w14.cell? ⟨gb1,1,none⟩=some (.int .i64 0):=(blk_cell BK1.out 1).trans rfl;have hfs16:=blk_frozen BK1.out 1;refine skip_ (w1:=?_) (by rfl) rfl ?_ ?_;rotate_left
 ·go_simp;rfl
 refine hK.out _ _ trivial (fun hHeld=>?_);clear hK K;refine done_ (done_of HT_.out qz2) ?_;(try go_wp2)
 refine bodyPost_ret (results_cell_row rfl _ _ gb1 128 #[.int .i64 (wrap64 (Int.tdiv a0 t1)),.int .i64 (wrap64 (Int.tdiv a1 t1))] (0,0) _ rfl (by (with_reducible repeat (first|refine blk_drewN ?_ _|refine blk_drew ?_|refine blk_alloc ?_ _));refine blk_put (cs:=#[.int .i64 (wrap64 (Int.tdiv a0 t1)),.int .i64 0]) ?_ 1 _ rfl;(with_reducible repeat (first|refine blk_drewN ?_ _|refine blk_drew ?_|refine blk_alloc ?_ _));refine blk_put (cs:=#[.int .i64 0,.int .i64 0]) ?_ 0 _ rfl;(with_reducible repeat (first|refine blk_drewN ?_ _|refine blk_drew ?_|refine blk_alloc ?_ _));exact BK1.out) Tryz.underlying128 rfl qz2) rfl ?_;exact ⟨qz15,qz6⟩
def impl_otherDay.f (a0:Int):Option (Int):=if a0=100 then (some 119) else (some 100)
set_option maxHeartbeats 8000000 in
set_option maxRecDepth 100000 in
theorem impl_otherDay.calls (a0:Int) (r:Int) (w:World) (h:impl_otherDay.f a0=some r) :
    Calls Tryz.prog 133 #[.int .u8 a0] w fun e w'=>e=.returned (.int .u8 r)∧Drawn0 w w':=by
 have H:=h;unfold impl_otherDay.f at H;clear h;replace H:=zS H;rcases H with ⟨c2,H⟩|⟨c2,H⟩
 ·have ⟨c2b0,c2b1⟩:=zEq c2;clear c2;obtain rfl:=Option.some.inj H;go_enter Tryz.func133,Tryz.ntmps133;go_wp2;go_ret;exact ⟨qz23,qz85⟩
 have ⟨c2b0,c2b1⟩:=zNe c2;obtain rfl:=Option.some.inj H;go_enter Tryz.func133,Tryz.ntmps133;go_wp2;go_ret;exact ⟨qz23,qz85⟩
end Go.Proofs.YtdphjeiccokhnaaGreatDoor.QFnChainsGuessed
