/- The pure statement of FnChainsGuessed: solutions fit all clues and come in order, sure numbers are those of all, needless clues change nothing, and texts are read back. No condition. -/
import Derived.Test.YtdphjeiccokhnaaGreatDoorQFnChainsGuessedx26
import Derived.Test.YtdphjeiccokhnaaGreatDoorMath
import Derived.OpenShut
namespace Go.Proofs.YtdphjeiccokhnaaGreatDoor.PureFnChainsGuessed
open Go Go.RowKit Go.Proofs.YtdphjeiccokhnaaGreatDoor.QFnChainsGuessed Go.Proofs.YtdphjeiccokhnaaGreatDoorW.PrintWords Go.Proofs.YtdphjeiccokhnaaGreatDoorW.PrintLast Go.Proofs.YtdphjeiccokhnaaGreatDoorW.PrintMore
set_option linter.unusedVariables false
set_option linter.unusedSimpArgs false
theorem wrap_id {x:Int} (h : -9223372036854775808≤x) (h':x≤9223372036854775807):wrap64 x=x:=by unfold wrap64;omega
theorem ite_dec (p q:Prop) [Decidable p] [Decidable q]:(if decide p=true then some (decide q) else some false)=some (decide (p∧q)):=by
  by_cases h:p <;> simp [h]
theorem some_dec {p q:Prop} [Decidable p] [Decidable q] (h:p ↔ q):some (decide p)=some (decide q):=by rw [decide_eq_decide.2 h]
theorem div_in {x g:Int} {M:Int} (hM:M≤9223372036854775807) (h : -M≤x) (h':x≤M) (hd:g ∣ x) (h0:g≠0):wrap64 (Int.tdiv x g)=x / g:=by
  rw [Int.tdiv_eq_ediv_of_dvd hd]
  obtain ⟨c,rfl⟩:=hd
  rw [Int.mul_ediv_cancel_left _ h0]
  have:c.natAbs≤(g*c).natAbs:=by rw [Int.natAbs_mul];exact Nat.le_mul_of_pos_left _ (by omega)
  exact wrap_id (by omega) (by omega)
theorem l1In_eq (a b c:Int):spec_l1In.f a b c=some (decide (b≤a∧a≤c)):=by
  unfold spec_l1In.f
  by_cases h:a≥b
  · rw [if_pos h];simp [show b≤a from h]
  · rw [if_neg h];simp;omega
theorem within_eq (a b c:Int):impl_within.f a b c=some (decide (b≤a∧a≤c)):=by
  unfold impl_within.f
  by_cases h:a≥b
  · rw [if_pos h];simp [show b≤a from h]
  · rw [if_neg h];simp;omega
theorem cnGood_eq (a b c:Int):spec_cnGood.f a b c=some (decide ((1≤c∧c≤10)∧(0≤a∧a≤c)∧(0≤b∧b≤c))):=by
  unfold spec_cnGood.f;simp only [l1In_eq,Option.bind_some]
  by_cases h:1≤c∧c≤10 <;> by_cases h2:0≤a∧a≤c <;> simp [h,h2]
theorem IsChain_eq (a b c:Int):impl_IsChain.f a b c=some (decide ((1≤c∧c≤10)∧(0≤a∧a≤c)∧(0≤b∧b≤c))):=by
  unfold impl_IsChain.f;simp only [within_eq,Option.bind_some]
  by_cases h:1≤c∧c≤10 <;> by_cases h2:0≤a∧a≤c <;> simp [h,h2]
theorem cnLow_l0 (x0 x1:Int) (n:Nat):∀(k:Nat) (a b:Int),0≤a→0≤b→b.toNat≤n→n<k→Int.gcd a b≠0→
    spec_cnLow.l0 k x0 x1 a b=some (wrap64 (Int.tdiv x0 (Int.gcd a b)),wrap64 (Int.tdiv x1 (Int.gcd a b))):=by
  induction n with
  | zero=>
    intro k a b ha hb hn hk hg
    obtain ⟨k,rfl⟩:∃m,k=m+1:=⟨k - 1,by omega⟩
    obtain rfl:b=0:=by omega
    have e:((Int.gcd a 0:Nat):Int)=a:=by rw [Int.gcd_zero_right];omega
    have h0:a≠0:=by intro h;subst h;exact hg rfl
    simp only [spec_cnLow.l0]
    rw [if_neg (by omega),if_neg h0,e]
  | succ n ih=>
    intro k a b ha hb hn hk hg
    obtain ⟨k,rfl⟩:∃m,k=m+1:=⟨k - 1,by omega⟩
    simp only [spec_cnLow.l0]
    by_cases h:b>0
    · have h1:=Int.tmod_nonneg b ha
      have h2:=Int.tmod_lt_of_pos a h
      rw [if_pos h,if_neg (by omega),ih k b (a.tmod b) hb h1 (by omega) (by omega) (by rw [Mth.gcd_step];exact hg),Mth.gcd_step]
    · obtain rfl:b=0:=by omega
      have e:((Int.gcd a 0:Nat):Int)=a:=by rw [Int.gcd_zero_right];omega
      have h0:a≠0:=by intro h;subst h;exact hg rfl
      rw [if_neg (by omega),if_neg h0,e]
theorem cnLow_eq (k:Nat) (a b:Int) (ha:0≤a) (ha':a≤9223372036854775807) (hb:0<b) (hb':b≤9223372036854775807) (hk:b.toNat<k):spec_cnLow.f k a b=some (Mth.low a b):=by
  have hg:=Int.gcd_pos_of_ne_zero_right a (b:=b) (by omega)
  unfold spec_cnLow.f
  rw [cnLow_l0 a b b.toNat k a b ha (by omega) (Nat.le_refl _) hk (by omega)]
  rw [div_in (M:=9223372036854775807) (by omega) (by omega) ha' (Int.gcd_dvd_left a b) (by omega),div_in (M:=9223372036854775807) (by omega) (by omega) hb' (Int.gcd_dvd_right a b) (by omega)]
  unfold Mth.low Mth.dv
  rw [if_neg (by omega)]
theorem common_l0 (n:Nat):∀(k:Nat) (a b:Int),0≤a→0≤b→b.toNat≤n→n<k→impl_common.l0 k a b=some (Int.gcd a b:Int):=by
  induction n with
  | zero=>
    intro k a b ha hb hn hk
    obtain ⟨k,rfl⟩:∃m,k=m+1:=⟨k - 1,by omega⟩
    have hb0:b=0:=by omega
    simp only [impl_common.l0]
    rw [if_pos hb0,hb0,Int.gcd_zero_right];congr 1;omega
  | succ n ih=>
    intro k a b ha hb hn hk
    obtain ⟨k,rfl⟩:∃m,k=m+1:=⟨k - 1,by omega⟩
    simp only [impl_common.l0]
    by_cases h:b=0
    · rw [if_pos h,h,Int.gcd_zero_right];congr 1;omega
    · have h1:=Int.tmod_nonneg b ha
      have h2:=Int.tmod_lt_of_pos a (b:=b) (by omega)
      rw [if_neg h,ih k b (a.tmod b) hb h1 (by omega) (by omega),Mth.gcd_step]
theorem mx_abs (a:Int) (h : -9223372036854775807≤a) (h':a≤9223372036854775807):mx a (wrap64 (-a))=(a.natAbs:Int):=by
  rw [wrap_id (by omega) (by omega)];unfold mx;split <;> omega
theorem common_eq (k:Nat) (a b:Int) (ha : -9223372036854775807≤a) (ha':a≤9223372036854775807) (hb : -9223372036854775807≤b) (hb':b≤9223372036854775807) (hk:b.natAbs<k) :
    impl_common.f k a b=some (Int.gcd a b:Int):=by
  unfold impl_common.f
  rw [mx_abs a ha ha',mx_abs b hb hb',common_l0 b.natAbs k _ _ (by omega) (by omega) (by omega) hk]
  simp [Int.gcd]
theorem lowest_eq (k:Nat) (a b:Int) (ha : -9223372036854775807≤a) (ha':a≤9223372036854775807) (hb : -9223372036854775807≤b) (hb':b≤9223372036854775807) (h0:b≠0) (hk:b.natAbs<k) :
    impl_lowest.f k a b=some (Mth.low a b):=by
  have hg:=Int.gcd_pos_of_ne_zero_right a h0
  have hl:Int.gcd a b≤b.natAbs:=Nat.le_of_dvd (by omega) (Int.gcd_dvd_natAbs_right a b)
  unfold impl_lowest.f
  rw [common_eq k a b ha ha' hb hb' hk]
  simp only [Option.bind_some]
  by_cases h:b<0
  · have e:wrap64 (-((Int.gcd a b:Nat):Int)) = -((Int.gcd a b:Nat):Int):=wrap_id (by omega) (by omega)
    rw [if_pos h,e,if_neg (by omega),div_in (M:=9223372036854775807) (by omega) (by omega) ha' (Int.neg_dvd.2 (Int.gcd_dvd_left a b)) (by omega),div_in (M:=9223372036854775807) (by omega) (by omega) hb' (Int.neg_dvd.2 (Int.gcd_dvd_right a b)) (by omega)]
    unfold Mth.low Mth.dv
    rw [if_pos h]
  · rw [if_neg h,if_neg (by omega),div_in (M:=9223372036854775807) (by omega) (by omega) ha' (Int.gcd_dvd_left a b) (by omega),div_in (M:=9223372036854775807) (by omega) (by omega) hb' (Int.gcd_dvd_right a b) (by omega)]
    unfold Mth.low Mth.dv
    rw [if_neg h]
theorem bytes_eq {a b:ByteArray} (h:a.data.toList=b.data.toList):a=b:=by
  apply ByteArray.ext
  exact Array.toList_inj.1 h
theorem app_list (a b:ByteArray):(a++b).data.toList=a.data.toList++b.data.toList:=by simp
theorem ext_list (w:ByteArray) (i j:Nat):(w.extract i j).data.toList=(w.data.toList.take j).drop i:=by
  rw [ByteArray.data_extract]
  simp [Array.toList_extract,List.extract_eq_take_drop,List.drop_take]
theorem occ_at {x y:List UInt8} {c:UInt8} : Lib.occAt (x++c::y) [c] x.length=true:=by
  unfold Lib.occAt
  rw [List.drop_left]
  simp [List.isPrefixOf]
theorem occ_not {s:List UInt8} {c:UInt8} {j:Nat} (h:s[j]?≠some c):Lib.occAt s [c] j=false:=by
  unfold Lib.occAt
  cases hd:s.drop j with
  | nil=>rfl
  | cons b r=>
    have hb:s[j]? = some b:=by
      have:=congrArg List.head? hd
      rwa [List.head?_drop] at this
    have:b≠c:=fun e=>h (by rw [hb,e])
    simp [List.isPrefixOf,this.symm]
theorem idx1 {x y:List UInt8} {c:UInt8} (h:c ∉ x):Lib.index (x++c::y) [c]=x.length:=by
  refine Lib.index_first (by simp) occ_at (fun j hj=>occ_not ?_)
  rw [List.getElem?_append_left hj]
  intro e
  exact h (List.mem_of_getElem? e)
theorem idx0 {x:List UInt8} {c:UInt8} (h:c ∉ x):Lib.index x [c] = -1:=by
  rcases Lib.index_spec x [c] with ⟨h1,_⟩|⟨i,h1,h2,h3,_⟩
  · exact h1
  · refine absurd h3 ?_
    rw [occ_not (fun e=>h (List.mem_of_getElem? e))]
    simp
theorem cut1 {x y:List UInt8} {c:UInt8} (h:c ∉ x):Lib.cut (x++c::y) [c]=(x,y,true):=by
  unfold Lib.cut
  rw [idx1 h,if_pos (by omega)]
  simp
theorem cut0 {x:List UInt8} {c:UInt8} (h:c ∉ x):Lib.cut x [c]=(x,[],false):=by
  unfold Lib.cut
  rw [idx0 h,if_neg (by omega)]
theorem parts (c:UInt8):∀s:List UInt8,(c ∉ s)∨∃x y,s=x++c::y∧c ∉ x
  | []=>.inl (by simp)
  | b::s=>by
    by_cases hb:b=c
    · exact .inr ⟨[],s,by rw [hb];rfl,by simp⟩
    · rcases parts c s with h|⟨x,y,h,hx⟩
      · exact .inl (by simp [h,Ne.symm hb])
      · exact .inr ⟨b::x,y,by rw [h];rfl,by simp [hx,Ne.symm hb]⟩
def sepB (c:UInt8):ByteArray:=⟨#[c]⟩
theorem cf0 {s:List UInt8} {c:UInt8} (h:c ∉ s):∀n,Lib.countFrom [c] n s=0
  | 0=>rfl
  | n+1=>by rw [Lib.countFrom,idx0 h];rfl
theorem split0 {t:ByteArray} {c:UInt8} (h:c ∉ t.data.toList):Lib.splitB (sepB c) 0 (Lib.countB t (sepB c)) t=[t]:=by
  have:Lib.countB t (sepB c)=0:=cf0 h _
  rw [this,Lib.splitB_zero]
def val (n:Nat) (r:List UInt8):Nat:=r.foldl (fun a c=>10*a+(c.toNat - 48)) n
theorem val_nil (a:Nat):val a []=a:=by unfold val;rw [List.foldl_nil]
theorem val_cons (a:Nat) (c:UInt8) (r:List UInt8):val a (c::r)=val (10*a+(c.toNat - 48)) r:=by unfold val;rw [List.foldl_cons]
def isDig (c:UInt8):Prop:=48≤c.toNat∧c.toNat≤57
theorem dig_back {c:UInt8} (h:isDig c):UInt8.ofNat (48+(c.toNat - 48))=c:=by
  obtain ⟨h1,h2⟩:=h
  apply UInt8.toNat_inj.1
  rw [UInt8.toNat_ofNat']
  omega
theorem dec_step {n d:Nat} (hn:0<n) (hd:d<10):Lib.decDigits (10*n+d)=Lib.decDigits n++[UInt8.ofNat (48+d)]:=by
  rw [Lib.decDigits,dif_neg (by omega),show (10*n+d) / 10=n by omega,show (10*n+d) % 10=d by omega]
theorem dec_val (r:List UInt8):∀n:Nat,0<n→(∀c,c∈r→isDig c)→Lib.decDigits (val n r)=Lib.decDigits n++r:=by
  induction r with
  | nil=>intro n hn h;rw [val_nil,List.append_nil]
  | cons c r ih=>
    intro n hn h
    have hc:=h c List.mem_cons_self
    have hlt:c.toNat - 48<10:=by have:=hc.2;omega
    have e:=ih (10*n+(c.toNat - 48)) (by omega) (fun x hx=>h x (List.mem_cons_of_mem _ hx))
    rw [val_cons,e,dec_step hn hlt,dig_back hc,List.append_assoc]
    rfl
theorem canon {c:UInt8} {r:List UInt8} (h:∀x,x∈c::r→isDig x) (h0:c.toNat≠48∨r=[]):Lib.decDigits (val 0 (c::r))=c::r:=by
  have hc:=h c List.mem_cons_self
  have hlt:c.toNat - 48<10:=by have:=hc.2;omega
  have e1:Lib.decDigits (c.toNat - 48)=[c]:=by rw [Lib.decDigits,dif_pos hlt,dig_back hc]
  have e0:10*0+(c.toNat - 48)=c.toNat - 48:=by omega
  rw [val_cons,e0]
  rcases h0 with h0|rfl
  · have hp:0<c.toNat - 48:=by have:=hc.1;omega
    rw [dec_val r _ hp (fun x hx=>h x (List.mem_cons_of_mem _ hx)),e1]
    rfl
  · rw [val_nil,e1]
def pieces (c:UInt8):List UInt8→List UInt8→List (List UInt8)
  | cur,[]=>[cur]
  | cur,b::s=>if b=c then cur::pieces c [] s else pieces c (cur++[b]) s
def mkB (l:List UInt8):ByteArray:=⟨l.toArray⟩
theorem mkB_list (l:List UInt8):(mkB l).data.toList=l:=rfl
theorem mkB_size (l:List UInt8):(mkB l).size=l.length:=rfl
theorem size_list (t:ByteArray):t.size=t.data.toList.length:=by rw [Array.length_toList];rfl
theorem mkB_back (t:ByteArray):mkB t.data.toList=t:=bytes_eq rfl
theorem pieces_none {c:UInt8} : ∀{x:List UInt8} (cur:List UInt8),c ∉ x→pieces c cur x=[cur++x]
  | [],cur,_=>by rw [pieces,List.append_nil]
  | b::x,cur,h=>by
    have hb:b≠c:=fun e=>h (by rw [e];exact List.mem_cons_self)
    rw [pieces,if_neg hb,pieces_none (cur++[b]) (fun e=>h (List.mem_cons_of_mem _ e)),List.append_assoc];rfl
theorem pieces_at {c:UInt8} : ∀{x:List UInt8} (y cur:List UInt8),c ∉ x→pieces c cur (x++c::y)=(cur++x)::pieces c [] y
  | [],y,cur,_=>by rw [List.nil_append,pieces,if_pos rfl,List.append_nil]
  | b::x,y,cur,h=>by
    have hb:b≠c:=fun e=>h (by rw [e];exact List.mem_cons_self)
    rw [List.cons_append,pieces,if_neg hb,pieces_at y (cur++[b]) (fun e=>h (List.mem_cons_of_mem _ e)),List.append_assoc];rfl
theorem pieces_pos {c:UInt8} : ∀(s cur:List UInt8),1≤(pieces c cur s).length
  | [],cur=>by rw [pieces];exact Nat.le_refl _
  | b::s,cur=>by
    rw [pieces];split
    · simp
    · exact pieces_pos s _
theorem pieces_len {c:UInt8} : ∀(s cur:List UInt8),(pieces c cur s).length≤s.length+1
  | [],cur=>by rw [pieces];exact Nat.le_refl _
  | b::s,cur=>by
    rw [pieces];split
    · have:=pieces_len (c:=c) s [];simp;omega
    · have:=pieces_len (c:=c) s (cur++[b]);simp;omega
theorem pieces_one {c:UInt8} {s a:List UInt8} (h:pieces c [] s=[a]):s=a:=by
  rcases parts c s with hn|⟨x,y,rfl,hx⟩
  · rw [pieces_none [] hn] at h;exact (List.cons.inj h).1
  · rw [pieces_at y [] hx] at h
    have:=pieces_pos (c:=c) y []
    rw [(List.cons.inj h).2] at this
    exact absurd this (by simp)
theorem pieces_two {c:UInt8} {s a b:List UInt8} (h:pieces c [] s=[a,b]):s=a++c::b:=by
  rcases parts c s with hn|⟨x,y,rfl,hx⟩
  · rw [pieces_none [] hn] at h;cases (List.cons.inj h).2
  · rw [pieces_at y [] hx] at h
    have h1:=(List.cons.inj h).1
    have h2:=pieces_one (List.cons.inj h).2
    rw [← h1,← h2];rfl
theorem pieces_piece {c:UInt8} : ∀(s cur p:List UInt8),p∈pieces c cur s→p.length≤cur.length+s.length
  | [],cur,p,h=>by
    rw [pieces,List.mem_singleton] at h;subst h;simp
  | b::s,cur,p,h=>by
    rw [pieces] at h
    split at h
    · rcases List.mem_cons.1 h with rfl|h
      · simp
      · have:=pieces_piece s [] p h;simp at this ⊢;omega
    · have:=pieces_piece s _ p h;simp at this ⊢;omega
theorem split_pieces (c:UInt8):∀(n:Nat) (t:ByteArray),t.size≤n→Lib.splitB (sepB c) 0 (Lib.countB t (sepB c)) t=(pieces c [] t.data.toList).map mkB
  | n,t,hn=>by
    rcases parts c t.data.toList with h|⟨x,y,ht,hx⟩
    · rw [split0 h,pieces_none [] h]
      exact congrArg (fun z=>[z]) (mkB_back t).symm
    · have hi:Lib.indexB t (sepB c)=x.length:=by
        show Lib.index t.data.toList [c]=x.length
        rw [ht];exact idx1 hx
      have hc:=Lib.countB_hit t (sepB c) x.length (Nat.le_refl 1) hi
      have hz:t.size=x.length+1+y.length:=by rw [size_list,ht];simp;omega
      have e1:t.extract 0 (x.length+0)=mkB x:=bytes_eq (by rw [ext_list,ht];simp;rfl)
      have e2:t.extract (x.length+(sepB c).size) t.size=mkB y:=bytes_eq (by
        rw [ext_list,List.take_of_length_le (by rw [Array.length_toList];exact Nat.le_refl _),ht]
        show (x++c::y).drop (x.length+1)=y
        rw [List.drop_append];simp)
      rw [e2] at hc
      obtain ⟨n,rfl⟩:∃m,n=m+1:=⟨n - 1,by omega⟩
      have ih:=split_pieces c n (mkB y) (by rw [mkB_size];omega)
      have hc2:Lib.countB t (sepB c)=Lib.countB (mkB y) (sepB c)+1:=by rw [hc];omega
      rw [hc2,Lib.splitB_hit _ _ _ _ x.length hi,e1,e2,ih,ht,pieces_at y [] hx]
      rfl
theorem dec_isDig:∀(n:Nat) (c:UInt8),c∈Lib.decDigits n→isDig c
  | n,c,h=>by
    have one:∀d:Nat,d<10→isDig (UInt8.ofNat (48+d)):=fun d hd=>by
      unfold isDig;rw [UInt8.toNat_ofNat'];omega
    by_cases hn:n<10
    · rw [Lib.decDigits,dif_pos hn,List.mem_singleton] at h
      subst h;exact one n hn
    · rw [Lib.decDigits,dif_neg hn] at h
      rcases List.mem_append.1 h with h|h
      · exact dec_isDig (n / 10) c h
      · rw [List.mem_singleton] at h;subst h;exact one _ (by omega)
theorem no_sep {c:UInt8} (h:¬(48≤c.toNat∧c.toNat≤57)) (n:Nat):c ∉ Lib.decDigits n:=fun e=>h (dec_isDig n c e)
def d3 (n:Nat):List UInt8:=if n<10 then [UInt8.ofNat (48+n)] else if n<100 then [UInt8.ofNat (48+n / 10),UInt8.ofNat (48+n % 10)] else [UInt8.ofNat (48+n / 100),UInt8.ofNat (48+n / 10 % 10),UInt8.ofNat (48+n % 10)]
theorem dec_d3 (n:Nat) (h:n<1000):Lib.decDigits n=d3 n:=by
  unfold d3
  by_cases c:n<10
  · rw [if_pos c,Lib.decDigits,dif_pos c]
  · rw [if_neg c,Lib.decDigits,dif_neg c]
    by_cases c2:n<100
    · rw [if_pos c2,Lib.decDigits,dif_pos (by omega)];rfl
    · rw [if_neg c2,Lib.decDigits,dif_neg (by omega),Lib.decDigits,dif_pos (by omega),show n / 10 / 10=n / 100 by omega];rfl
theorem dec_len3 {n:Nat} (h:n<1000):(Lib.decDigits n).length≤3:=by
  rw [dec_d3 n h];unfold d3;split
  · simp
  · split <;> simp
def okNum (w:ByteArray):Option Int:=match Lib.atoiAll w.data.toList with
  | .ok v=>if v<0 then none else if Lib.itoa v=w.data.toList then some v else none
  | _=>none
def rn:List ByteArray→List Int→List Int×Bool
  | [],acc=>(acc,true)
  | w::ws,acc=>match okNum w with
    | some v=>rn ws (acc++[v])
    | none=>([],false)
theorem dtl (b:ByteArray):b.toList=b.data.toList:=Go.ByteArray.toList_eq b
theorem body (w:ByteArray) (hw:w.size≤4000000000) (F:Int→Option (List Int×Bool)):((strconv_Atoi.f w).bind fun bt=>(if bt.2.isNone=true then (if bt.1<0 then (some (([]:List Int),false)) else ((strconv_Itoa.f bt.1).bind fun t=>(if t.toList=w.toList then F bt.1 else (some (([]:List Int),false))))) else (some (([]:List Int),false))))=match okNum w with
    | some v=>F v
    | none=>some ([],false):=by
  unfold strconv_Atoi.f
  rw [if_pos hw]
  unfold atoiP okNum
  cases ha:Lib.atoiAll w.data.toList with
  | ok v=>
    have hb:=Lib.atoiAll_bounds ha
    simp only [Option.bind_some,Option.isNone_none,if_true]
    by_cases h0:v<0
    · simp only [if_pos h0]
    · simp only [if_neg h0]
      unfold strconv_Itoa.f
      rw [if_pos (by omega)]
      simp only [Option.bind_some,dtl]
      by_cases h1:Lib.itoa v=w.data.toList
      · rw [if_pos h1]
        simp only [if_pos h1]
      · rw [if_neg h1]
        simp only [if_neg h1]
  | _=>rfl
theorem split_sizes (sep:ByteArray):∀(k:Nat) (s w:ByteArray),w∈Lib.splitB sep 0 k s→w.size≤s.size
  | 0,s,w,h=>by
    rw [Lib.splitB_zero] at h
    simp only [List.mem_cons,List.not_mem_nil,or_false] at h
    subst h;exact Nat.le_refl _
  | k+1,s,w,h=>by
    unfold Lib.splitB at h
    split at h
    · simp only [List.mem_cons,List.not_mem_nil,or_false] at h
      subst h;exact Nat.le_refl _
    · rcases List.mem_cons.1 h with rfl|h
      · rw [ByteArray.size_extract];omega
      · have:=split_sizes sep k _ w h
        rw [ByteArray.size_extract] at this;omega
theorem rn_ev (L:List ByteArray) (hl:L.length≤4000000) (hs:∀w,w∈L→w.size≤4000000000):∀(d i:Nat) (acc:List Int),i+d=L.length→acc.length=i→
    Mth.Evn (fun k=>impl_readNumbers.l0 k acc L (L.length:Int) i) (rn (L.drop i) acc)
  | 0,i,acc,hi,ha=>by
    refine (Mth.Evn.now _).step fun k=>?_
    simp only [impl_readNumbers.l0]
    rw [if_neg (by omega),List.drop_of_length_le (by omega)];rfl
  | d+1,i,acc,hi,ha=>by
    have hlt:i<L.length:=by omega
    have er:rdOf ByteArray.empty L (i:Int)=L[i]:=by unfold rdOf;rw [List.getD_eq_getElem?_getD,Int.toNat_natCast,List.getElem?_eq_getElem hlt];rfl
    have hw:=hs _ (List.getElem_mem hlt)
    have ew:wrap64 ((i:Int)+1)=((i+1:Nat):Int):=by rw [wrap_id (by omega) (by omega)];omega
    rw [List.drop_eq_getElem_cons hlt]
    cases hk:okNum L[i] with
    | none=>
      have e:rn (L[i]::L.drop (i+1)) acc=([],false):=by rw [rn,hk]
      rw [e]
      refine (Mth.Evn.now _).step fun k=>?_
      simp only [impl_readNumbers.l0,er]
      rw [if_pos (by omega),if_pos (by omega),if_pos (by omega)]
      refine (body L[i] hw (fun v=>if acc.length<17592186044416 then impl_readNumbers.l0 k (acc++[v]) L (L.length:Int) (wrap64 ((i:Int)+1)) else none)).trans ?_
      rw [hk]
    | some v=>
      have e:rn (L[i]::L.drop (i+1)) acc=rn (L.drop (i+1)) (acc++[v]):=by rw [rn,hk]
      rw [e]
      have ih:=rn_ev L hl hs d (i+1) (acc++[v]) (by omega) (by simp;omega)
      refine ih.step fun k=>?_
      simp only [impl_readNumbers.l0,er]
      rw [if_pos (by omega),if_pos (by omega),if_pos (by omega)]
      refine (body L[i] hw (fun v=>if acc.length<17592186044416 then impl_readNumbers.l0 k (acc++[v]) L (L.length:Int) (wrap64 ((i:Int)+1)) else none)).trans ?_
      rw [hk]
      show (if acc.length<17592186044416 then _ else _)=_
      rw [if_pos (by omega),ew]
theorem readNumbers_ev {t sep:ByteArray} (ht:t.size≤2000000) (h1:1≤sep.size):Mth.Evn (fun k=>impl_readNumbers.f k t sep) (rn (Lib.splitB sep 0 (Lib.countB t sep) t) []):=by
  have hb:=Lib.countB_mul_le sep h1 t.size t (Nat.le_refl _)
  have hb2:Lib.countB t sep*1≤Lib.countB t sep*sep.size:=Nat.mul_le_mul_left _ h1
  have hl:=Lib.splitB_all sep h1 0 (Lib.countB t sep) t rfl
  have es:strings_Split.f t sep=some (Lib.splitB sep 0 (Lib.countB t sep) t):=by unfold strings_Split.f;exact if_pos ⟨by omega,h1⟩
  have:=rn_ev (Lib.splitB sep 0 (Lib.countB t sep) t) (by omega) (fun w hw=>by have:=split_sizes sep _ t w hw;omega) (Lib.splitB sep 0 (Lib.countB t sep) t).length 0 [] (by omega) rfl
  rw [List.drop_zero] at this
  unfold impl_readNumbers.f
  rw [es]
  exact this
theorem rn_len:∀(L:List ByteArray) (acc xs:List Int),rn L acc=(xs,true)→xs.length=acc.length+L.length
  | [],acc,xs,h=>by
    obtain ⟨rfl,_⟩:=Prod.mk.inj h;simp
  | w::ws,acc,xs,h=>by
    rw [rn] at h
    cases hk:okNum w with
    | none=>rw [hk] at h;cases h
    | some v=>
      rw [hk] at h
      have:=rn_len ws (acc++[v]) xs h
      simp at this ⊢;omega
theorem okNum_some {w:ByteArray} {v:Int} (h:okNum w=some v):0≤v∧Lib.decDigits v.toNat=w.data.toList:=by
  unfold okNum at h
  split at h
  · rename_i u hu
    split at h
    · cases h
    · split at h
      · rename_i h0 h1
        obtain rfl:=Option.some.inj h
        refine ⟨by omega,?_⟩
        rw [← h1,Lib.itoa,if_neg h0]
      · cases h
  · cases h
theorem bt_list (t:ByteArray) {i:Nat} (h:i<t.data.toList.length):bt t (i:Int)=((t.data.toList[i]).toNat:Int):=by
  have hi:i<t.size:=by rw [size_list];exact h
  unfold bt
  rw [Int.toNat_natCast,dif_pos hi]
  rfl
theorem l1Split_l0 (t:ByteArray) (c:UInt8) (ht:t.size≤2000000):∀(d i st:Nat) (acc:List ByteArray),i+d=t.size→st≤i→acc.length≤i→
    Mth.Evn (fun k=>spec_l1Split.l0 k t (c.toNat:Int) acc st i) (acc++(pieces c ((t.data.toList.take i).drop st) (t.data.toList.drop i)).map mkB)
  | 0,i,st,acc,hi,hs,ha=>by
    have hl:=size_list t
    refine (Mth.Evn.now _).step fun k=>?_
    simp only [spec_l1Split.l0]
    rw [if_neg (by omega),if_pos (by omega),if_pos (by omega),if_pos (by omega),List.drop_of_length_le (l:=t.data.toList) (i:=i) (by omega),pieces]
    have e:t.extract st t.size=mkB ((t.data.toList.take i).drop st):=bytes_eq (by rw [ext_list,show i=t.size by omega];rfl)
    rw [Int.toNat_natCast,e];rfl
  | d+1,i,st,acc,hi,hs,ha=>by
    have hl:=size_list t
    have hlt:i<t.data.toList.length:=by omega
    have eb:=bt_list t hlt
    have ew:wrap64 ((i:Int)+1)=((i+1:Nat):Int):=by rw [wrap_id (by omega) (by omega)];omega
    rw [List.drop_eq_getElem_cons hlt,pieces]
    by_cases hc:t.data.toList[i]=c
    · have e:t.extract st i=mkB ((t.data.toList.take i).drop st):=bytes_eq (by rw [ext_list];rfl)
      have ih:=l1Split_l0 t c ht d (i+1) (i+1) (acc++[mkB ((t.data.toList.take i).drop st)]) (by omega) (Nat.le_refl _) (by simp;omega)
      rw [List.drop_of_length_le (l:=t.data.toList.take (i+1)) (by simp;omega),List.append_assoc] at ih
      rw [if_pos hc]
      refine ih.step fun k=>?_
      simp only [spec_l1Split.l0]
      rw [if_pos (by omega),if_pos (by omega),if_pos (by rw [eb,hc]),if_pos (by omega),if_pos (by omega),if_pos (by omega),if_pos (by omega),ew,Int.toNat_natCast,Int.toNat_natCast,e]
    · have ih:=l1Split_l0 t c ht d (i+1) st acc (by omega) (by omega) (by omega)
      have e:(t.data.toList.take (i+1)).drop st=(t.data.toList.take i).drop st++[t.data.toList[i]]:=by
        rw [List.take_add_one,List.getElem?_eq_getElem hlt,List.drop_append_of_le_length (by simp;omega)];rfl
      rw [e] at ih
      rw [if_neg hc]
      refine ih.step fun k=>?_
      simp only [spec_l1Split.l0]
      rw [if_pos (by omega),if_pos (by omega),if_neg (by rw [eb];exact fun e2=>hc (UInt8.toNat_inj.1 (by omega))),ew]
theorem l1Split_ev {t:ByteArray} (ht:t.size≤2000000) (c:UInt8):Mth.Evn (fun k=>spec_l1Split.f k t (c.toNat:Int)) ((pieces c [] t.data.toList).map mkB):=by
  have:=l1Split_l0 t c ht t.size 0 0 [] (by omega) (Nat.le_refl _) (Nat.le_refl _)
  rw [List.nil_append,List.drop_zero,List.drop_zero,List.take_zero] at this
  unfold spec_l1Split.f
  exact this
theorem evn_of_mono {α:Type} {f:Nat→Option α} (hm:∀k,LeO (f k) (f (k+1))) {N:Nat} {r:α} (h:f N=some r):Mth.Evn f r:=by
  refine ⟨N,fun k hk=>?_⟩
  obtain ⟨d,rfl⟩:∃d,k=N+d:=⟨k - N,by omega⟩
  clear hk
  induction d with
  | zero=>exact h
  | succ d ih=>exact hm (N+d) r ih
theorem read_d3:∀p:Fin 101,spec_l1Read.f 10 (mkB (d3 p))=some ((p.val:Nat):Int):=by decide +kernel
theorem read_yes {n:Nat} (h:n≤100):Mth.Evn (fun k=>spec_l1Read.f k (mkB (Lib.decDigits n))) (n:Int):=by
  rw [dec_d3 n (by omega)]
  exact evn_of_mono (fun k=>spec_l1Read.mono _ k) (read_d3 ⟨n,by omega⟩)
theorem l1Read_back (s:ByteArray) (hs:s.size≤6):∀(d i x:Nat),i+d=s.size→x<10 ^ i→
    ∃r:Int,Mth.Evn (fun k=>spec_l1Read.l0 k s (x:Int) i) r∧(0≤r→(∀c,c∈s.data.toList.drop i→isDig c)∧r.toNat=val x (s.data.toList.drop i))
  | 0,i,x,hi,hx=>by
    have hl:=size_list s
    refine ⟨x,(Mth.Evn.now _).step fun k=>by simp only [spec_l1Read.l0];rw [if_neg (by omega)],fun _=>?_⟩
    rw [List.drop_of_length_le (by omega),val_nil]
    exact ⟨fun c hc=>(by cases hc),by omega⟩
  | d+1,i,x,hi,hx=>by
    have hl:=size_list s
    have hlt:i<s.data.toList.length:=by omega
    have eb:=bt_list s hlt
    have ew:wrap64 ((i:Int)+1)=((i+1:Nat):Int):=by rw [wrap_id (by omega) (by omega)];omega
    have hp:10 ^ i≤10 ^ 6:=Nat.pow_le_pow_right (by omega) (by omega)
    have e6:(10:Nat) ^ 6=1000000:=by decide
    have es:(10:Nat) ^ (i+1)=10*10 ^ i:=by rw [Nat.pow_succ];omega
    rw [List.drop_eq_getElem_cons hlt,val_cons]
    generalize s.data.toList[i]=b at eb ⊢
    by_cases c1:bt s i<48
    · exact ⟨-1,(Mth.Evn.now _).step fun k=>by simp only [spec_l1Read.l0];rw [if_pos (by omega),if_pos (by omega),if_pos c1],fun h=>absurd h (by omega)⟩
    · by_cases c2:bt s i>57
      · exact ⟨-1,(Mth.Evn.now _).step fun k=>by simp only [spec_l1Read.l0];rw [if_pos (by omega),if_pos (by omega),if_neg c1,if_pos c2],fun h=>absurd h (by omega)⟩
      · have hx2:x<1000000:=by omega
        obtain ⟨r,hr,h2⟩:=l1Read_back s hs d (i+1) (10*x+(b.toNat - 48)) (by omega) (by omega)
        have e1:wrap64 ((wrap64 (10*(x:Int)))+(((bt s i) - 48) % 256))=((10*x+(b.toNat - 48):Nat):Int):=by
          rw [wrap_id (x:=10*(x:Int)) (by omega) (by omega),eb]
          rw [eb] at c1 c2
          rw [wrap_id (by omega) (by omega)];omega
        refine ⟨r,hr.step fun k=>by simp only [spec_l1Read.l0];rw [if_pos (by omega),if_pos (by omega),if_neg c1,if_neg c2,ew,e1],fun h=>?_⟩
        obtain ⟨h3,h4⟩:=h2 h
        refine ⟨fun c hc=>?_,h4⟩
        rcases List.mem_cons.1 hc with rfl|hc
        · unfold isDig;omega
        · exact h3 c hc
theorem read_back (s:ByteArray):∃r:Int,Mth.Evn (fun k=>spec_l1Read.f k s) r∧(0≤r→Lib.decDigits r.toNat=s.data.toList):=by
  have hl:=size_list s
  have yes:Mth.Evn (fun k=>spec_l1Read.j0 k s true) (-1):=(Mth.Evn.now _).step fun k=>by simp only [spec_l1Read.j0];rw [if_pos trivial]
  unfold spec_l1Read.f
  rw [l1In_eq]
  simp only [Option.bind_some]
  by_cases c:1≤(s.size:Int)∧(s.size:Int)≤6
  · obtain ⟨r,hr,hb⟩:=l1Read_back s (by omega) s.size 0 0 (by omega) (by simp)
    rw [List.drop_zero] at hb
    have no:Mth.Evn (fun k=>spec_l1Read.j0 k s false) r:=hr.step fun k=>by simp only [spec_l1Read.j0];rw [if_neg (by simp)];rfl
    have e0:=bt_list s (i:=0) (by omega)
    have fin:((bt s 0≠48)∨s.size=1)→0≤r→Lib.decDigits r.toNat=s.data.toList:=by
      intro h0 h
      obtain ⟨h1,h2⟩:=hb h
      rw [h2]
      cases hs:s.data.toList with
      | nil=>
        rw [hs,List.length_nil] at hl
        omega
      | cons b q=>
        rw [hs] at h1 hl
        simp only [hs,List.getElem_cons_zero] at e0
        refine canon h1 ?_
        rcases h0 with h0|h0
        · exact .inl (fun e=>h0 (by rw [show (0:Int)=((0:Nat):Int) from rfl,e0,e];rfl))
        · refine .inr ?_
          cases q with
          | nil=>rfl
          | cons _ _=>simp at hl;omega
    by_cases c0:bt s 0=48
    · by_cases c1:(s.size:Int)>1
      · exact ⟨-1,Mth.Evn.congr (fun k=>(if_pos (decide_eq_true c)).trans ((if_pos (by omega)).trans ((if_pos c0).trans (by rw [decide_eq_true c1])))) yes,fun h=>absurd h (by omega)⟩
      · exact ⟨r,Mth.Evn.congr (fun k=>(if_pos (decide_eq_true c)).trans ((if_pos (by omega)).trans ((if_pos c0).trans (by rw [decide_eq_false c1])))) no,fin (.inr (by omega))⟩
    · exact ⟨r,Mth.Evn.congr (fun k=>(if_pos (decide_eq_true c)).trans ((if_pos (by omega)).trans (if_neg c0))) no,fin (.inl c0)⟩
  · exact ⟨-1,Mth.Evn.congr (fun k=>if_neg (by simpa using c)) yes,fun h=>absurd h (by omega)⟩
theorem atoi_d3:∀p:Fin 101,Lib.atoiAll (d3 p)=.ok ((p.val:Nat):Int):=by decide +kernel
theorem okNum_yes {n:Nat} (h:n≤100):okNum (mkB (Lib.decDigits n))=some (n:Int):=by
  have ha:=atoi_d3 ⟨n,by omega⟩
  dsimp only at ha
  rw [← dec_d3 n (by omega)] at ha
  unfold okNum
  rw [mkB_list,ha]
  have h0:¬(n:Int)<0:=by omega
  have hi:Lib.itoa (n:Int)=Lib.decDigits n:=by unfold Lib.itoa;rw [if_neg h0,Int.toNat_natCast]
  show (if (n:Int)<0 then none else if Lib.itoa (n:Int)=Lib.decDigits n then some (n:Int) else none)=_
  rw [if_neg h0,if_pos hi]
theorem rn_yes:∀(ns:List Nat) (acc:List Int),(∀n,n∈ns→n≤100)→rn (ns.map fun n=>mkB (Lib.decDigits n)) acc=(acc++ns.map (fun n:Nat=>(n:Int)),true)
  | [],acc,_=>by simp [rn]
  | n::ns,acc,h=>by
    rw [List.map_cons,rn,okNum_yes (h n List.mem_cons_self)]
    have:=rn_yes ns (acc++[(n:Int)]) (fun m hm=>h m (List.mem_cons_of_mem _ hm))
    dsimp only
    rw [this,List.append_assoc];rfl
theorem rn_back:∀(L:List ByteArray) (acc xs:List Int),rn L acc=(xs,true)→∃ns:List Nat,xs=acc++ns.map (fun n:Nat=>(n:Int))∧L.map (fun b=>b.data.toList)=ns.map Lib.decDigits
  | [],acc,xs,h=>by
    obtain ⟨rfl,_⟩:=Prod.mk.inj h
    exact ⟨[],by simp,rfl⟩
  | w::ws,acc,xs,h=>by
    rw [rn] at h
    cases hk:okNum w with
    | none=>rw [hk] at h;cases h
    | some v=>
      rw [hk] at h
      obtain ⟨h0,hv⟩:=okNum_some hk
      obtain ⟨ns,e1,e2⟩:=rn_back ws (acc++[v]) xs h
      refine ⟨v.toNat::ns,?_,?_⟩
      · rw [e1,List.append_assoc,List.map_cons,show ((v.toNat:Nat):Int)=v by omega];rfl
      · rw [List.map_cons,List.map_cons,e2,hv]
theorem nums_ev {t:ByteArray} (ht:t.size≤2000000) (c:UInt8):Mth.Evn (fun k=>impl_readNumbers.f k t (sepB c)) (rn ((pieces c [] t.data.toList).map mkB) []):=by
  have:=readNumbers_ev (t:=t) (sep:=sepB c) ht (Nat.le_refl 1)
  rwa [split_pieces c t.size t (Nat.le_refl _)] at this
theorem nums_yes {t:ByteArray} {c:UInt8} {ns:List Nat} (ht:t.size≤2000000) (hp:pieces c [] t.data.toList=ns.map Lib.decDigits) (hs:∀n,n∈ns→n≤100):Mth.Evn (fun k=>impl_readNumbers.f k t (sepB c)) (ns.map (fun n:Nat=>(n:Int)),true):=by
  have:=nums_ev ht c
  rw [hp,List.map_map] at this
  have e:=rn_yes ns [] hs
  rw [List.nil_append] at e
  rw [show (mkB ∘ Lib.decDigits)=fun n=>mkB (Lib.decDigits n) from rfl,e] at this
  exact this
theorem nums_back {t:ByteArray} (ht:t.size≤2000000) (c:UInt8):∃xs:List Int,∃b:Bool,Mth.Evn (fun k=>impl_readNumbers.f k t (sepB c)) (xs,b)∧(b=true→1≤xs.length∧∃ns:List Nat,xs=ns.map (fun n:Nat=>(n:Int))∧pieces c [] t.data.toList=ns.map Lib.decDigits):=by
  have h:=nums_ev ht c
  cases hr:rn ((pieces c [] t.data.toList).map mkB) [] with
  | mk xs b=>
    rw [hr] at h
    refine ⟨xs,b,h,?_⟩
    rintro rfl
    have hl:=rn_len _ _ _ hr
    have hp:=pieces_pos (c:=c) t.data.toList []
    obtain ⟨ns,e1,e2⟩:=rn_back _ _ _ hr
    refine ⟨by simp at hl;omega,ns,by rw [e1,List.nil_append],?_⟩
    rw [← e2,List.map_map]
    exact (List.map_id _).symm
abbrev clueOk (kd a b:Int):Prop:=(0≤a∧a≤100)∧(0≤b∧b≤100)∧((kd=0∧a=0∧b≤1)∨((kd=1∨kd=2∨kd=5)∧a=0)∨((kd=3∨kd=4)∧1≤b))
theorem pzClue_eq (k:Nat) (kd a b:Int):spec_pzClue.f (k+2) kd a b=some (decide (clueOk kd a b)):=by
  unfold clueOk
  simp only [spec_pzClue.f,spec_pzClue.j0,spec_pzClue.j1,l1In_eq,Option.bind_some]
  by_cases h2:0≤a∧a≤100
  · by_cases h3:0≤b∧b≤100
    · simp only [h2,h3,decide_true,if_true,Bool.not_true,Bool.false_eq_true,if_false,Option.bind_some,true_and,and_self]
      by_cases k0:kd=0
      · subst k0;by_cases h4:a=0
        · subst h4;simp;omega
        · simp [h4]
      · by_cases k1:kd=1
        · subst k1;simp
          by_cases h4:a=0 <;> simp [h4]
        · by_cases k2:kd=2
          · subst k2;simp
            by_cases h4:a=0 <;> simp [h4]
          · by_cases k5:kd=5
            · subst k5;simp
              by_cases h4:a=0 <;> simp [h4]
            · have k5':(kd==5)=false:=by simpa using k5
              by_cases k3:kd=3
              · subst k3;simp;omega
              · by_cases k4:kd=4
                · subst k4;simp;omega
                · simp [k0,k1,k2,k3,k4,k5]
    · simp [h2,h3]
  · simp only [h2,decide_false,Bool.false_eq_true,if_false,false_and,if_true]
theorem IsClue_eq (k:Nat) (of kd a b:Int):impl_IsClue.f (k+1) of kd a b=some (decide ((1≤of∧of≤8)∧clueOk kd a b)):=by
  unfold clueOk
  unfold impl_IsClue.f impl_isTwo.f
  by_cases k3:kd=3
  · rw [if_pos k3];simp only [Option.bind_some,if_true,impl_IsClue.j0,within_eq,ite_dec]
    exact some_dec (by omega)
  · rw [if_neg k3]
    by_cases k4:kd=4
    · have e:(kd==4)=true:=by simpa using k4
      simp only [e,Option.bind_some,if_true,impl_IsClue.j0,within_eq,ite_dec]
      exact some_dec (by omega)
    · have e:(kd==4)=false:=by simpa using k4
      rw [e];simp only [Option.bind_some,Bool.false_eq_true,if_false]
      by_cases k0:kd=0
      · rw [if_pos k0];simp only [impl_IsClue.j0,within_eq,Option.bind_some,ite_dec]
        exact some_dec (by omega)
      · rw [if_neg k0];simp only [impl_IsClue.j0,within_eq,Option.bind_some,ite_dec]
        exact some_dec (by omega)
theorem rdg_get (xs:List S51) (i:Int) (h:i.toNat<xs.length):rd_T51 xs i=xs[i.toNat]:=by unfold rd_T51;rw [List.getD_eq_getElem?_getD,List.getElem?_eq_getElem h];rfl
def goodP (o:Int) (l:List S51):Bool:=decide (1≤o∧o≤8) && (decide (l.length≤6) && l.all fun x=>decide (clueOk x.f0 x.f1 x.f2))
theorem anyO_some (f:S51→Option Bool) (p:S51→Bool):∀l:List S51,(∀x,x∈l→f x=some (p x))→anyO f l=some (l.any p)
  | [],_=>rfl
  | x::xs,h=>by
    simp only [anyO,h x (by simp),Option.bind_some,List.any_cons]
    cases e:p x with
    | true=>simp
    | false=>simpa using anyO_some f p xs (fun y hy=>h y (by simp [hy]))
theorem IsPuzzle_evn (o:Int) (l:List S51):Mth.Evn (fun k=>impl_IsPuzzle.f k o l) (goodP o l):=by
  refine ⟨1,fun k hk=>?_⟩
  obtain ⟨k,rfl⟩:∃j,k=j+1:=⟨k - 1,by omega⟩
  show impl_IsPuzzle.f (k+1) o l=_
  unfold impl_IsPuzzle.f impl_Clue_48.f
  rw [within_eq];simp only [Option.bind_some]
  unfold goodP
  by_cases ho:1≤o∧o≤8
  · rw [decide_eq_true ho,if_pos rfl]
    by_cases hl:l.length≤6
    · rw [if_pos (by omega),if_pos (by omega),anyO_some _ (fun x=>!decide (clueOk x.f0 x.f1 x.f2)) l (fun x _=>?_)]
      · simp only [Option.bind_some,decide_eq_true hl,Bool.true_and,List.not_any_eq_all_not,Bool.not_not]
      · rw [IsClue_eq];simp [ho]
    · rw [if_neg (by omega),decide_eq_false hl];simp
  · rw [decide_eq_false ho,if_neg (by simp)];simp
theorem pzGood_l0 (l:List S51) (hl:l.length≤6):∀(d:Nat) (i:Int),0≤i→i+d=l.length→
    Mth.Evn (fun k=>spec_pzGood.l0 k l (l.length:Int) i) ((l.drop i.toNat).all fun x=>decide (clueOk x.f0 x.f1 x.f2))
  | 0,i,h0,hi=>by
    rw [List.drop_eq_nil_of_le (by omega)]
    refine (Mth.Evn.now _).step fun k=>?_
    simp only [spec_pzGood.l0];rw [if_neg (by omega)];rfl
  | d+1,i,h0,hi=>by
    have hlt:i.toNat<l.length:=by omega
    rw [List.drop_eq_getElem_cons hlt]
    have ih:=pzGood_l0 l hl d (i+1) (by omega) (by omega)
    rw [show (i+1).toNat=i.toNat+1 by omega] at ih
    have hq:Mth.Evn (fun k=>spec_pzClue.f k ((rd_T51 l i).f0) ((rd_T51 l i).f1) ((rd_T51 l i).f2)) (decide (clueOk (l[i.toNat]).f0 (l[i.toNat]).f1 (l[i.toNat]).f2)):=by
      refine ⟨2,fun k hk=>?_⟩
      obtain ⟨k,rfl⟩:∃j,k=j+2:=⟨k - 2,by omega⟩
      show spec_pzClue.f (k+2) _ _ _=_
      rw [pzClue_eq,rdg_get l i hlt]
    refine Mth.Evn.step (g:=fun k=>(spec_pzClue.f k ((rd_T51 l i).f0) ((rd_T51 l i).f1) ((rd_T51 l i).f2)).bind fun t=>if t=true then spec_pzGood.l0 k l (l.length:Int) (i+1) else some false) (fun k=>?_) (hq.bind ?_)
    · simp only [spec_pzGood.l0]
      rw [if_pos (by omega),if_pos h0,if_pos (by omega),wrap_id (x:=i+1) (by omega) (by omega)]
    · by_cases h:clueOk (l[i.toNat]).f0 (l[i.toNat]).f1 (l[i.toNat]).f2
      · simp only [List.all_cons,decide_eq_true h,if_true,Bool.true_and];exact ih
      · simp only [List.all_cons,decide_eq_false h,Bool.false_and]
        exact Mth.Evn.congr (fun k=>if_neg (by simp)) (Mth.Evn.now _)
theorem pzGood_evn (o:Int) (l:List S51):Mth.Evn (fun k=>spec_pzGood.f k o l) (goodP o l):=by
  have ep:spec_pzOf.f o=some (decide (1≤o∧o≤8)):=by unfold spec_pzOf.f;rw [l1In_eq];rfl
  unfold spec_pzGood.f goodP
  rw [ep];simp only [Option.bind_some]
  by_cases ho:1≤o∧o≤8
  · rw [decide_eq_true ho]
    refine Mth.Evn.congr (fun k=>if_pos rfl) ?_
    by_cases hl:l.length≤6
    · refine Mth.Evn.step (g:=fun k=>spec_pzGood.l0 k l (l.length:Int) 0) (fun k=>?_) ?_
      · simp only [spec_pzGood.j0];rw [decide_eq_false (by omega),if_neg (by simp)]
      · simpa [hl] using pzGood_l0 l hl l.length 0 (by omega) (by omega)
    · refine Mth.Evn.step (g:=fun k=>some false) (fun k=>?_) ?_
      · simp only [spec_pzGood.j0];rw [decide_eq_true (by omega),if_pos rfl]
      · simpa [hl] using Mth.Evn.now false
  · rw [decide_eq_false ho]
    refine Mth.Evn.congr (fun k=>if_neg (by simp)) ?_
    refine Mth.Evn.step (g:=fun k=>some false) (fun k=>?_) (by simpa using Mth.Evn.now false)
    simp only [spec_pzGood.j0];rw [if_pos trivial]
theorem low_bd {n d:Int} (h0:0≤n) (hd:0<d):(0≤(Mth.low n d).1∧(Mth.low n d).1≤n)∧0<(Mth.low n d).2∧(Mth.low n d).2≤d:=
  ⟨⟨Mth.low_nonneg hd h0,Mth.low_num_le hd h0⟩,Mth.low_pos (by omega),Mth.low_den_le hd⟩
theorem cnLow_ev (a b:Int) (ha:0≤a) (ha':a≤9223372036854775807) (hb:0<b) (hb':b≤9223372036854775807):Mth.Evn (fun k=>spec_cnLow.f k a b) (Mth.low a b):=
  ⟨b.toNat+1,fun k hk=>cnLow_eq k a b ha ha' hb hb' (by omega)⟩
theorem lowest_ev (a b:Int) (ha : -9223372036854775807≤a) (ha':a≤9223372036854775807) (hb : -9223372036854775807≤b) (hb':b≤9223372036854775807) (h0:b≠0):Mth.Evn (fun k=>impl_lowest.f k a b) (Mth.low a b):=
  ⟨b.natAbs+1,fun k hk=>lowest_eq k a b ha ha' hb hb' h0 (by omega)⟩
def clueVal (w d o kd:Int):Int×Int×Bool:=
  if kd=0 then (0,if w>d then 1 else 0,true) else if kd=1 then (0,w+d,true) else if kd=2 then (0,w*d,true)
  else if kd=3 then (if w=0∨d=0 then (0,0,false) else ((Mth.low d (w+d)).1,(Mth.low d (w+d)).2,true))
  else if kd=4 then (if d=0 then (0,0,false) else ((Mth.low o d).1,(Mth.low o d).2,true))
  else (0,(o - w)*(o - w)+w*d,true)
def fitsB (w d o kd a b:Int):Bool:=(clueVal w d o kd).2.2 && ((clueVal w d o kd).1==a && (clueVal w d o kd).2.1==b)
section
variable {w d o:Int} (ho:1≤o) (ho':o≤8) (hw:0≤w) (hw':w≤o) (hd:0≤d) (hd':d≤o)
include ho ho' hw hw' hd hd'
theorem prods:(0≤w*d∧w*d≤64)∧(0≤(o - w)*(o - w)∧(o - w)*(o - w)≤64):=by
  have h1:=Int.mul_nonneg hw hd
  have h2:=Int.mul_le_mul (show w≤8 by omega) (show d≤8 by omega) hd (by omega)
  have h3:=Int.mul_nonneg (show 0≤o - w by omega) (show 0≤o - w by omega)
  have h4:=Int.mul_le_mul (show o - w≤8 by omega) (show o - w≤8 by omega) (by omega) (by omega)
  omega
theorem pzValue_ev (kd:Int):Mth.Evn (fun k=>spec_pzValue.f k kd w d o) (clueVal w d o kd):=by
  obtain ⟨⟨p1,p2⟩,p3,p4⟩:=prods ho ho' hw hw' hd hd'
  unfold spec_pzValue.f clueVal
  by_cases k0:kd=0
  · refine Mth.Evn.congr (fun k=>?_) (Mth.Evn.now _)
    simp only [if_pos k0];split <;> rfl
  · by_cases k1:kd=1
    · refine Mth.Evn.congr (fun k=>?_) (Mth.Evn.now _)
      simp only [if_neg k0,if_pos k1];rw [wrap_id (by omega) (by omega)]
    · by_cases k2:kd=2
      · refine Mth.Evn.congr (fun k=>?_) (Mth.Evn.now _)
        simp only [if_neg k0,if_neg k1,if_pos k2];rw [wrap_id (by omega) (by omega)]
      · by_cases k3:kd=3
        · refine Mth.Evn.congr (fun k=>by rw [if_neg k0,if_neg k1,if_neg k2,if_pos k3]) ?_
          rw [if_neg k0,if_neg k1,if_neg k2,if_pos k3]
          by_cases w0:w=0
          · refine Mth.Evn.congr (fun k=>by rw [if_pos w0]) ?_
            rw [if_pos (.inl w0)];exact Mth.Evn.now _
          · by_cases d0:d=0
            · refine Mth.Evn.congr (fun k=>by rw [if_neg w0,if_pos d0]) ?_
              rw [if_pos (.inr d0)];exact Mth.Evn.now _
            · have ew:wrap64 (w+d)=w+d:=wrap_id (by omega) (by omega)
              refine Mth.Evn.congr (fun k=>by rw [if_neg w0,if_neg d0,ew]) ?_
              rw [if_neg (by omega)]
              exact (cnLow_ev d (w+d) (by omega) (by omega) (by omega) (by omega)).bind (Mth.Evn.now _)
        · by_cases k4:kd=4
          · refine Mth.Evn.congr (fun k=>by rw [if_neg k0,if_neg k1,if_neg k2,if_neg k3,if_pos k4]) ?_
            rw [if_neg k0,if_neg k1,if_neg k2,if_neg k3,if_pos k4]
            by_cases d0:d=0
            · refine Mth.Evn.congr (fun k=>by rw [if_pos d0]) ?_
              rw [if_pos d0];exact Mth.Evn.now _
            · refine Mth.Evn.congr (fun k=>by rw [if_neg d0]) ?_
              rw [if_neg d0]
              exact (cnLow_ev o d (by omega) (by omega) (by omega) (by omega)).bind (Mth.Evn.now _)
          · refine Mth.Evn.congr (fun k=>?_) (Mth.Evn.now _)
            simp only [if_neg k0,if_neg k1,if_neg k2,if_neg k3,if_neg k4]
            rw [wrap_id (x:=o - w) (by omega) (by omega),wrap_id (x:=(o - w)*(o - w)) (by omega) (by omega),wrap_id (x:=w*d) (by omega) (by omega),wrap_id (x:=(o - w)*(o - w)+w*d) (by omega) (by omega)]
theorem chain_good:decide ((1≤o∧o≤10)∧(0≤w∧w≤o)∧(0≤d∧d≤o))=true:=decide_eq_true ⟨⟨ho,by omega⟩,⟨hw,hw'⟩,hd,hd'⟩
theorem longShare_ev:Mth.Evn (fun k=>impl_LongShare.f k w d o (⟨#[100]⟩:ByteArray)) (if w=0∨d=0 then (0,0,false) else ((Mth.low d (w+d)).1,(Mth.low d (w+d)).2,true)):=by
  have g:=chain_good ho ho' hw hw' hd hd'
  have hday:impl_isDay.f (⟨#[100]⟩:ByteArray)=some true:=by decide +kernel
  have hb:bt (⟨#[100]⟩:ByteArray) 0=100:=by decide
  unfold impl_LongShare.f
  refine Mth.Evn.congr (g:=fun k=>impl_LongShare.j0 k (⟨#[100]⟩:ByteArray) (!decide (w>0∧d>0)) w d o) (fun k=>?_) ?_
  · rw [IsChain_eq,g,hday];simp only [Option.bind_some,if_true,impl_Chain_mixes.f]
    by_cases h:w>0
    · rw [if_pos h];simp only [Option.bind_some];congr 2;simp [h]
    · rw [if_neg h];simp only [Option.bind_some];congr 2;simp [h]
  · by_cases h:w=0∨d=0
    · rw [if_pos h,decide_eq_false (by omega)]
      refine (Mth.Evn.now _).step fun k=>?_
      simp only [impl_LongShare.j0];rfl
    · rw [if_neg h,decide_eq_true (by omega)]
      have ew:wrap64 (w+d)=w+d:=wrap_id (by omega) (by omega)
      refine Mth.Evn.step (g:=fun k=>(impl_lowest.f k d (w+d)).bind fun b=>some (b.1,b.2,true)) (fun k=>?_) ((lowest_ev d (w+d) (by omega) (by omega) (by omega) (by omega) (by omega)).bind (Mth.Evn.now _))
      simp only [impl_LongShare.j0,impl_Chain_share.f,impl_otherDay.f,impl_Chain_leave.f,impl_frac_told.f,hb,ew]
      rw [if_neg (by decide),if_pos (by decide)]
      simp only [if_true,Option.bind_some]
      rw [if_neg (by decide)]
      simp only [Option.bind_some]
      cases impl_lowest.f k d (w+d) <;> rfl
theorem meanRun_ev:Mth.Evn (fun k=>impl_MeanRun.f k w d o (⟨#[119]⟩:ByteArray)) (if d=0 then (0,0,false) else ((Mth.low o d).1,(Mth.low o d).2,true)):=by
  have g:=chain_good ho ho' hw hw' hd hd'
  have hday:impl_isDay.f (⟨#[119]⟩:ByteArray)=some true:=by decide +kernel
  have hb:bt (⟨#[119]⟩:ByteArray) 0=119:=by decide
  unfold impl_MeanRun.f
  refine Mth.Evn.congr (g:=fun k=>impl_MeanRun.j0 k (⟨#[119]⟩:ByteArray) (d==0) w d o) (fun k=>?_) ?_
  · rw [IsChain_eq,g,hday,hb];simp only [Option.bind_some,if_true,impl_Chain_leave.f]
    rw [if_pos (by decide),if_neg (by decide)];rfl
  · by_cases h:d=0
    · rw [if_pos h,show (d==0)=true by simpa using h]
      refine (Mth.Evn.now _).step fun k=>?_
      simp only [impl_MeanRun.j0];rfl
    · rw [if_neg h,show (d==0)=false by simpa using h]
      refine Mth.Evn.step (g:=fun k=>(impl_lowest.f k o d).bind fun b=>some (b.1,b.2,true)) (fun k=>?_) ((lowest_ev o d (by omega) (by omega) (by omega) (by omega) (by omega)).bind (Mth.Evn.now _))
      simp only [impl_MeanRun.j0,impl_Chain_leave.f,impl_frac_told.f,hb]
      rw [if_neg (by decide),if_pos (by decide),if_neg (by decide)]
      simp only [Option.bind_some]
theorem clue_ev (kd:Int):Mth.Evn (fun k=>impl_Chain_clue.f k w d o kd) (kd,clueVal w d o kd):=by
  obtain ⟨⟨p1,p2⟩,p3,p4⟩:=prods ho ho' hw hw' hd hd'
  unfold impl_Chain_clue.f clueVal
  by_cases k0:kd=0
  · refine Mth.Evn.congr (fun k=>?_) (Mth.Evn.now _)
    simp only [if_pos k0];split <;> rfl
  · by_cases k1:kd=1
    · refine Mth.Evn.congr (fun k=>?_) (Mth.Evn.now _)
      simp only [if_neg k0,if_pos k1];rw [wrap_id (by omega) (by omega)]
    · by_cases k2:kd=2
      · refine Mth.Evn.congr (fun k=>?_) (Mth.Evn.now _)
        simp only [if_neg k0,if_neg k1,if_pos k2];rw [wrap_id (by omega) (by omega)]
      · by_cases k3:kd=3
        · refine Mth.Evn.congr (fun k=>by rw [if_neg k0,if_neg k1,if_neg k2,if_pos k3]) ?_
          rw [if_neg k0,if_neg k1,if_neg k2,if_pos k3]
          refine (longShare_ev ho ho' hw hw' hd hd').bind ?_
          exact Mth.Evn.now _
        · by_cases k4:kd=4
          · refine Mth.Evn.congr (fun k=>by rw [if_neg k0,if_neg k1,if_neg k2,if_neg k3,if_pos k4]) ?_
            rw [if_neg k0,if_neg k1,if_neg k2,if_neg k3,if_pos k4]
            refine (meanRun_ev ho ho' hw hw' hd hd').bind ?_
            exact Mth.Evn.now _
          · refine Mth.Evn.congr (fun k=>?_) (Mth.Evn.now _)
            simp only [if_neg k0,if_neg k1,if_neg k2,if_neg k3,if_neg k4]
            rw [wrap_id (x:=o - w) (by omega) (by omega),wrap_id (x:=(o - w)*(o - w)) (by omega) (by omega),wrap_id (x:=w*d) (by omega) (by omega),wrap_id (x:=(o - w)*(o - w)+w*d) (by omega) (by omega)]
end
section
variable {w d o:Int} (ho:1≤o) (ho':o≤8) (hw:0≤w) (hw':w≤o) (hd:0≤d) (hd':d≤o)
include ho ho' hw hw' hd hd'
theorem pzFits_ev (kd a b:Int):Mth.Evn (fun k=>spec_pzFits.f k kd a b w d o) (fitsB w d o kd a b):=by
  unfold spec_pzFits.f fitsB
  refine (pzValue_ev ho ho' hw hw' hd hd' kd).bind ?_
  generalize clueVal w d o kd=v
  refine Mth.Evn.congr (fun k=>?_) (Mth.Evn.now _)
  obtain ⟨x,y,z⟩:=v
  cases z
  · simp
  · by_cases h:x=a
    · simp [h]
    · simp [h]
theorem fits_ev (kd a b:Int):Mth.Evn (fun k=>impl_Chain_fits.f k w d o kd a b) (fitsB w d o kd a b):=by
  unfold impl_Chain_fits.f fitsB
  refine (clue_ev ho ho' hw hw' hd hd' kd).bind ?_
  generalize clueVal w d o kd=v
  refine Mth.Evn.congr (fun k=>?_) (Mth.Evn.now _)
  obtain ⟨x,y,z⟩:=v
  cases z <;> simp
end
def fitsAll (o:Int) (l:List S51) (w d:Int):Bool:=l.all fun x=>fitsB w d o x.f0 x.f1 x.f2
def solRow (o:Int) (l:List S51) (w d:Int):Nat→List S34
  | 0=>[]
  | n+1=>(if fitsAll o l w d then [⟨w,d,o⟩] else [])++solRow o l w (d+1) n
def solAll (o:Int) (l:List S51) (w:Int):Nat→List S34
  | 0=>[]
  | n+1=>solRow o l w 0 (o+1).toNat++solAll o l (w+1) n
def sols (o:Int) (l:List S51):List S34:=solAll o l 0 (o+1).toNat
theorem solRow_len (o:Int) (l:List S51) (w:Int):∀(n:Nat) (d:Int),(solRow o l w d n).length≤n
  | 0,d=>Nat.le_refl _
  | n+1,d=>by
    have:=solRow_len o l w n (d+1)
    simp only [solRow,List.length_append]
    split <;> simp <;> omega
theorem solAll_len (o:Int) (l:List S51):∀(n:Nat) (w:Int),(solAll o l w n).length≤n*(o+1).toNat
  | 0,w=>Nat.zero_le _
  | n+1,w=>by
    have:=solAll_len o l n (w+1)
    have h2:=solRow_len o l w (o+1).toNat 0
    simp only [solAll,List.length_append,Nat.succ_mul];omega
theorem sols_len {o:Int} (ho:1≤o) (ho':o≤8) (l:List S51):(sols o l).length≤81:=by
  have h:=solAll_len o l (o+1).toNat 0
  have h2:(o+1).toNat≤9:=by omega
  have h3:=Nat.mul_le_mul h2 h2
  exact Nat.le_trans h h3
section
variable {o:Int} (ho:1≤o) (ho':o≤8)
include ho ho'
theorem anyFits_ev (l:List S51) (hl:l.length≤1000000) {w d:Int} (hw:0≤w) (hw':w≤o) (hd:0≤d) (hd':d≤o):Mth.Evn (fun k=>impl_Clue_71.f k l w d o) (!fitsAll o l w d):=by
  unfold impl_Clue_71.f fitsAll
  refine Mth.Evn.congr (fun k=>if_pos hl) ?_
  clear hl
  induction l with
  | nil=>exact Mth.Evn.now _
  | cons x xs ih=>
    simp only [anyO,List.all_cons]
    refine Mth.Evn.bind ((fits_ev ho ho' hw hw' hd hd' x.f0 x.f1 x.f2).bind (Mth.Evn.now _)) ?_
    cases e:fitsB w d o x.f0 x.f1 x.f2 with
    | true=>exact Mth.Evn.congr (fun k=>if_neg (by simp)) (by simpa using ih)
    | false=>exact Mth.Evn.congr (fun k=>if_pos rfl) (Mth.Evn.now _)
theorem implRow_ev (l:List S51) (hl:l.length≤1000000) {w:Int} (hw:0≤w) (hw':w≤o) (x10 x11:Int) (R:List S34):∀(n:Nat) (d:Int) (x5:List S34),0≤d→d+n=o+1→x5.length+n≤1000000→
    Mth.Evn (fun k=>impl_solutions.l0 k o l (x5++solRow o l w d n) x10 (wrap64 (x11+1))) R→Mth.Evn (fun k=>impl_solutions.l1 k o l x5 w x10 x11 (o+1) d) R
  | 0,d,x5,hd,hn,hx,h=>by
    refine Mth.Evn.step (fun k=>?_) h
    simp only [impl_solutions.l1];rw [if_neg (by omega)];simp [solRow]
  | n+1,d,x5,hd,hn,hx,h=>by
    refine Mth.Evn.step (g:=fun k=>(impl_Clue_71.f k l w d o).bind fun t=>if t=true then impl_solutions.l1 k o l x5 w x10 x11 (o+1) (d+1) else if x5.length<5864062014805 then impl_solutions.l1 k o l (x5++[(⟨w,d,o⟩:S34)]) w x10 x11 (o+1) (d+1) else none) (fun k=>?_) ((anyFits_ev ho ho' l hl hw hw' hd (by omega)).bind ?_)
    · simp only [impl_solutions.l1];rw [if_pos (by omega),wrap_id (x:=d+1) (by omega) (by omega)]
    · cases e:fitsAll o l w d with
      | false=>
        refine Mth.Evn.congr (fun k=>if_pos rfl) (implRow_ev l hl hw hw' x10 x11 R n (d+1) x5 (by omega) (by omega) (by omega) ?_)
        simpa [solRow,e] using h
      | true=>
        refine Mth.Evn.congr (fun k=>(if_neg (by simp)).trans (if_pos (by omega))) (implRow_ev l hl hw hw' x10 x11 R n (d+1) (x5++[⟨w,d,o⟩]) (by omega) (by omega) (by simp;omega) ?_)
        simpa [solRow,e] using h
theorem implAll_ev (l:List S51) (hl:l.length≤1000000):∀(n:Nat) (w:Int) (x5:List S34),0≤w→w+n=o+1→x5.length+n*9≤900000→
    Mth.Evn (fun k=>impl_solutions.l0 k o l x5 (o+1) w) (x5++solAll o l w n)
  | 0,w,x5,hw,hn,hx=>by
    refine (Mth.Evn.now _).step fun k=>?_
    simp only [impl_solutions.l0];rw [if_neg (by omega)];simp [solAll]
  | n+1,w,x5,hw,hn,hx=>by
    have hr:=solRow_len o l w (o+1).toNat 0
    have ih:=implAll_ev l hl n (w+1) (x5++solRow o l w 0 (o+1).toNat) (by omega) (by omega) (by simp only [List.length_append];omega)
    refine Mth.Evn.step (fun k=>?_) (implRow_ev ho ho' l hl hw (by omega) (o+1) w (n:=(o+1).toNat) (d:=0) (x5:=x5) (by omega) (by omega) (by omega) (R:=x5++solAll o l w (n+1)) ?_)
    · simp only [impl_solutions.l0];rw [if_pos (by omega),wrap_id (x:=o+1) (by omega) (by omega)]
    · rw [wrap_id (x:=w+1) (by omega) (by omega)]
      simpa [solAll] using ih
theorem solutions_ev (l:List S51) (hl:l.length≤1000000):Mth.Evn (fun k=>impl_solutions.f k o l) (sols o l):=by
  unfold impl_solutions.f
  have h:=implAll_ev ho ho' l hl (o+1).toNat 0 [] (by omega) (by omega) (by simp;omega)
  rw [wrap_id (x:=o+1) (by omega) (by omega)]
  exact h
theorem specFit_ev (l:List S51) (hl:l.length≤1000000) {w d:Int} (hw:0≤w) (hw':w≤o) (hd:0≤d) (hd':d≤o) (x5:List S34) (hx:x5.length≤1000000) (R:List S34):∀(n:Nat) (i:Int) (b:Bool),0≤i→i+n=l.length→
    Mth.Evn (fun k=>spec_pzAll.l1 k o l (x5++if (b && (l.drop i.toNat).all fun x=>fitsB w d o x.f0 x.f1 x.f2)=true then [⟨w,d,o⟩] else []) w (d+1)) R→Mth.Evn (fun k=>spec_pzAll.l2 k o l x5 w d b l (l.length:Int) i w d o) R
  | 0,i,b,h0,hi,h=>by
    rw [List.drop_eq_nil_of_le (by omega)] at h
    refine Mth.Evn.step (fun k=>?_) h
    simp only [spec_pzAll.l2];rw [if_neg (by omega),wrap_id (x:=d+1) (by omega) (by omega)]
    cases b with
    | true=>rw [if_pos rfl,if_pos (by omega)];simp
    | false=>rw [if_neg (by simp)];simp
  | n+1,i,b,h0,hi,h=>by
    have hlt:i.toNat<l.length:=by omega
    rw [List.drop_eq_getElem_cons hlt] at h
    have hi1:(i+1).toNat=i.toNat+1:=by omega
    cases b with
    | false=>
      refine Mth.Evn.step (fun k=>?_) (specFit_ev l hl hw hw' hd hd' x5 hx R n (i+1) false (by omega) (by omega) (by simp only [Bool.false_and] at h ⊢;exact h))
      simp only [spec_pzAll.l2];rw [if_pos (by omega),if_pos h0,if_pos (by omega),if_neg (by simp),wrap_id (x:=i+1) (by omega) (by omega)]
    | true=>
      refine Mth.Evn.step (g:=fun k=>(spec_pzFits.f k ((rd_T51 l i).f0) ((rd_T51 l i).f1) ((rd_T51 l i).f2) w d o).bind fun t=>spec_pzAll.l2 k o l x5 w d t l (l.length:Int) (i+1) w d o) (fun k=>?_) (Mth.Evn.bind (by rw [rdg_get l i hlt];exact pzFits_ev ho ho' hw hw' hd hd' _ _ _) (specFit_ev l hl hw hw' hd hd' x5 hx R n (i+1) _ (by omega) (by omega) ?_))
      · simp only [spec_pzAll.l2];rw [if_pos (by omega),if_pos h0,if_pos (by omega),if_pos trivial,wrap_id (x:=i+1) (by omega) (by omega)]
      · rw [hi1];simp only [List.all_cons,Bool.true_and] at h;exact h
theorem specRow_ev (l:List S51) (hl:l.length≤1000000) {w:Int} (hw:0≤w) (hw':w≤o) (R:List S34):∀(n:Nat) (d:Int) (x5:List S34),0≤d→d+n=o+1→x5.length+n≤1000000→
    Mth.Evn (fun k=>spec_pzAll.l0 k o l (x5++solRow o l w d n) (w+1)) R→Mth.Evn (fun k=>spec_pzAll.l1 k o l x5 w d) R
  | 0,d,x5,hd,hn,hx,h=>by
    refine Mth.Evn.step (fun k=>?_) h
    simp only [spec_pzAll.l1];rw [if_neg (by omega),wrap_id (x:=w+1) (by omega) (by omega)];simp [solRow]
  | n+1,d,x5,hd,hn,hx,h=>by
    refine Mth.Evn.step (g:=fun k=>spec_pzAll.l2 k o l x5 w d true l (l.length:Int) 0 w d o) (fun k=>?_) (specFit_ev ho ho' l hl hw hw' hd (by omega) x5 (by omega) R l.length 0 true (by omega) (by omega) ?_)
    · simp only [spec_pzAll.l1];rw [if_pos (by omega)]
    · have e:(true && (l.drop (0:Int).toNat).all fun x=>fitsB w d o x.f0 x.f1 x.f2)=fitsAll o l w d:=by simp [fitsAll]
      rw [e]
      refine specRow_ev l hl hw hw' R n (d+1) _ (by omega) (by omega) (by split <;> simp <;> omega) ?_
      simpa [solRow] using h
theorem specAll_ev (l:List S51) (hl:l.length≤1000000):∀(n:Nat) (w:Int) (x5:List S34),0≤w→w+n=o+1→x5.length+n*9≤900000→
    Mth.Evn (fun k=>spec_pzAll.l0 k o l x5 w) (x5++solAll o l w n)
  | 0,w,x5,hw,hn,hx=>by
    refine (Mth.Evn.now _).step fun k=>?_
    simp only [spec_pzAll.l0];rw [if_neg (by omega)];simp [solAll]
  | n+1,w,x5,hw,hn,hx=>by
    have hr:=solRow_len o l w (o+1).toNat 0
    have ih:=specAll_ev l hl n (w+1) (x5++solRow o l w 0 (o+1).toNat) (by omega) (by omega) (by simp only [List.length_append];omega)
    refine Mth.Evn.step (fun k=>?_) (specRow_ev ho ho' l hl hw (by omega) (x5++solAll o l w (n+1)) (o+1).toNat 0 x5 (by omega) (by omega) (by omega) ?_)
    · simp only [spec_pzAll.l0];rw [if_pos (by omega)]
    · simpa [solAll] using ih
theorem pzAll_ev (l:List S51) (hl:l.length≤1000000):Mth.Evn (fun k=>spec_pzAll.f k o l) (sols o l):=by
  unfold spec_pzAll.f
  exact specAll_ev ho ho' l hl (o+1).toNat 0 [] (by omega) (by omega) (by simp;omega)
end
theorem goodP_of {o:Int} {l:List S51} (h:goodP o l=true):1≤o∧o≤8∧l.length≤6:=by
  unfold goodP at h
  simp only [Bool.and_eq_true,decide_eq_true_eq] at h
  exact ⟨h.1.1,h.1.2,h.2.1⟩
theorem specCount_ev (o:Int) (l:List S51) {α:Type} (F:List S34→α) (z r:α) (hr:r=if goodP o l=true then F (sols o l) else z):Mth.Evn (fun k=>(spec_pzGood.f k o l).bind fun t=>if t=true then (spec_pzAll.f k o l).bind fun u=>some (F u) else some z) r:=by
  subst hr
  refine (pzGood_evn _ _).bind ?_
  cases h:goodP o l with
  | true=>
    obtain ⟨h1,h2,h3⟩:=goodP_of h
    exact Mth.Evn.congr (fun k=>if_pos rfl) ((pzAll_ev h1 h2 _ (by omega)).bind (Mth.Evn.now _))
  | false=>exact Mth.Evn.congr (fun k=>if_neg (by simp)) (Mth.Evn.now _)
theorem rds_get (xs:List S34) (i:Int) (h:i.toNat<xs.length):rd_T34 xs i=xs[i.toNat]:=by unfold rd_T34;rw [List.getD_eq_getElem?_getD,List.getElem?_eq_getElem h];rfl
theorem Solutions_evn (o:Int) (l:List S51):Mth.Evn (fun k=>impl_Solutions.f k o l) (if goodP o l=true then sols o l else [],goodP o l):=by
  unfold impl_Solutions.f
  refine (IsPuzzle_evn o l).bind ?_
  cases h:goodP o l with
  | true=>
    obtain ⟨h1,h2,h3⟩:=goodP_of h
    exact Mth.Evn.congr (fun k=>if_pos rfl) ((solutions_ev h1 h2 l (by omega)).bind (Mth.Evn.now _))
  | false=>exact Mth.Evn.congr (fun k=>if_neg (by simp)) (Mth.Evn.now _)
def wout (l:List S51) (k:Int):List S51:=l.take k.toNat++l.drop (k+1).toNat
theorem wout_len (l:List S51) (k:Int):(wout l k).length≤l.length+l.length:=by
  simp only [wout,List.length_append,List.length_take,List.length_drop];omega
theorem pzWithout_eq (l:List S51) (k:Int) (hl:l.length≤1000) (h0:0≤k) (h1:k<l.length):spec_pzWithout.f l k=some (wout l k):=by
  unfold spec_pzWithout.f wout
  simp only [Option.bind_some,List.nil_append]
  rw [wrap_id (x:=k+1) (by omega) (by omega),if_pos h0,if_pos (by omega),if_pos (by simp only [List.length_take,List.length_nil];omega),if_pos (by omega),if_pos (by omega),if_pos (by simp only [List.length_take,List.length_drop];omega)]
theorem without_eq (l:List S51) (k:Int) (hl:l.length≤1000) (h0:0≤k) (h1:k<l.length):impl_without.f l k=some (wout l k):=by
  unfold impl_without.f impl_Clue_65.f wout
  rw [wrap_id (x:=k+1) (by omega) (by omega),if_pos h0,if_pos (by omega),if_pos (by omega),if_pos (by omega),if_pos (by simp only [List.length_take,List.length_drop];omega)]
  rfl
def needEnd (o:Int) (l:List S51) (c:Int):Nat→Int→List Int
  | 0,_=>[]
  | n+1,i=>(if ((sols o (wout l i)).length:Int)=c then [i] else [])++needEnd o l c n (i+1)
theorem needEnd_len (o:Int) (l:List S51) (c:Int):∀(n:Nat) (i:Int),(needEnd o l c n i).length≤n
  | 0,_=>Nat.le_refl _
  | n+1,i=>by
    have:=needEnd_len o l c n (i+1)
    simp only [needEnd,List.length_append]
    split <;> simp <;> omega
theorem specNeed_ev {o:Int} (ho:1≤o) (ho':o≤8) (l:List S51) (hl:l.length≤6) (c:Int):∀(n:Nat) (i:Int) (x4:List Int),0≤i→i+n=l.length→x4.length+n≤1000→Mth.Evn (fun k=>spec_NeedlessClues.l0 k x4 c (l.length:Int) i o l) (x4++needEnd o l c n i,true)
  | 0,i,x4,h0,hi,hx=>by
    refine (Mth.Evn.now _).step fun k=>?_
    simp only [spec_NeedlessClues.l0];rw [if_neg (by omega)];simp [needEnd]
  | n+1,i,x4,h0,hi,hx=>by
    have hwl:=wout_len l i
    have hs:=pzAll_ev ho ho' (wout l i) (by omega)
    refine Mth.Evn.step (g:=fun k=>(spec_pzAll.f k o (wout l i)).bind fun t=>if (t.length:Int)=c then (if x4.length<17592186044416 then spec_NeedlessClues.l0 k (x4++[i]) c (l.length:Int) (i+1) o l else none) else spec_NeedlessClues.l0 k x4 c (l.length:Int) (i+1) o l) (fun k=>?_) (hs.bind ?_)
    · simp only [spec_NeedlessClues.l0]
      rw [if_pos (by omega),pzWithout_eq l i (by omega) h0 (by omega),wrap_id (x:=i+1) (by omega) (by omega)];rfl
    · by_cases h:((sols o (wout l i)).length:Int)=c
      · refine Mth.Evn.congr (fun k=>(if_pos h).trans (if_pos (by omega))) ?_
        have ih:=specNeed_ev ho ho' l hl c n (i+1) (x4++[i]) (by omega) (by omega) (by simp;omega)
        simpa [needEnd,h] using ih
      · refine Mth.Evn.congr (fun k=>if_neg h) ?_
        have ih:=specNeed_ev ho ho' l hl c n (i+1) x4 (by omega) (by omega) (by omega)
        simpa [needEnd,h] using ih
theorem implNeed_ev {o:Int} (ho:1≤o) (ho':o≤8) (l:List S51) (hl:l.length≤6) (c0:List S34):∀(n:Nat) (i:Int) (x4:List Int),0≤i→i+n=l.length→x4.length+n≤1000→Mth.Evn (fun k=>impl_NeedlessClues.l0 k c0 x4 (l.length:Int) i o l) (x4++needEnd o l (c0.length:Int) n i,true)
  | 0,i,x4,h0,hi,hx=>by
    refine (Mth.Evn.now _).step fun k=>?_
    simp only [impl_NeedlessClues.l0];rw [if_neg (by omega)];simp [needEnd]
  | n+1,i,x4,h0,hi,hx=>by
    have hwl:=wout_len l i
    have hs:=solutions_ev ho ho' (wout l i) (by omega)
    refine Mth.Evn.step (g:=fun k=>(impl_solutions.f k o (wout l i)).bind fun t=>if (t.length:Int)=(c0.length:Int) then (if x4.length<17592186044416 then impl_NeedlessClues.l0 k c0 (x4++[i]) (l.length:Int) (i+1) o l else none) else impl_NeedlessClues.l0 k c0 x4 (l.length:Int) (i+1) o l) (fun k=>?_) (hs.bind ?_)
    · simp only [impl_NeedlessClues.l0]
      rw [if_pos (by omega),without_eq l i (by omega) h0 (by omega),wrap_id (x:=i+1) (by omega) (by omega)];rfl
    · by_cases h:((sols o (wout l i)).length:Int)=(c0.length:Int)
      · refine Mth.Evn.congr (fun k=>(if_pos h).trans (if_pos (by omega))) ?_
        have ih:=implNeed_ev ho ho' l hl c0 n (i+1) (x4++[i]) (by omega) (by omega) (by simp;omega)
        simpa [needEnd,h] using ih
      · refine Mth.Evn.congr (fun k=>if_neg h) ?_
        have ih:=implNeed_ev ho ho' l hl c0 n (i+1) x4 (by omega) (by omega) (by omega)
        simpa [needEnd,h] using ih
def leftEnd (o:Int) (l:List S51):Nat→Int→List Int
  | 0,_=>[]
  | n+1,i=>((sols o (l.take i.toNat)).length:Int)::leftEnd o l n (i+1)
theorem leftEnd_len (o:Int) (l:List S51):∀(n:Nat) (i:Int),(leftEnd o l n i).length=n
  | 0,_=>rfl
  | n+1,i=>by simp [leftEnd,leftEnd_len o l n]
theorem specLeft_ev {o:Int} (ho:1≤o) (ho':o≤8) (l:List S51) (hl:l.length≤6):∀(n:Nat) (i:Int) (x4:List Int),0≤i→i+n=l.length+1→x4.length+n≤1000→Mth.Evn (fun k=>spec_LeftByClues.l0 k x4 i o l) (x4++leftEnd o l n i,true)
  | 0,i,x4,h0,hi,hx=>by
    refine (Mth.Evn.now _).step fun k=>?_
    simp only [spec_LeftByClues.l0];rw [if_neg (by omega)];simp [leftEnd]
  | n+1,i,x4,h0,hi,hx=>by
    have hs:=pzAll_ev ho ho' (l.take i.toNat) (by simp only [List.length_take];omega)
    have ih:=specLeft_ev ho ho' l hl n (i+1) (x4++[((sols o (l.take i.toNat)).length:Int)]) (by omega) (by omega) (by simp;omega)
    refine Mth.Evn.step (g:=fun k=>(spec_pzAll.f k o (l.take i.toNat)).bind fun t=>if x4.length<17592186044416 then spec_LeftByClues.l0 k (x4++[(t.length:Int)]) (i+1) o l else none) (fun k=>?_) (hs.bind ?_)
    · simp only [spec_LeftByClues.l0]
      rw [if_pos (by omega),if_pos h0,wrap_id (x:=i+1) (by omega) (by omega)]
    · refine Mth.Evn.congr (fun k=>if_pos (by omega)) ?_
      simpa [leftEnd] using ih
theorem implLeft_ev {o:Int} (ho:1≤o) (ho':o≤8) (l:List S51) (hl:l.length≤6):∀(n:Nat) (i:Int) (x4:List Int),0≤i→i+n=l.length+1→x4.length+n≤1000→Mth.Evn (fun k=>impl_LeftByClues.l0 k x4 ((l.length:Int)+1) i o l) (x4++leftEnd o l n i,true)
  | 0,i,x4,h0,hi,hx=>by
    refine (Mth.Evn.now _).step fun k=>?_
    simp only [impl_LeftByClues.l0];rw [if_neg (by omega)];simp [leftEnd]
  | n+1,i,x4,h0,hi,hx=>by
    have hs:=solutions_ev ho ho' (l.take i.toNat) (by simp only [List.length_take];omega)
    have ih:=implLeft_ev ho ho' l hl n (i+1) (x4++[((sols o (l.take i.toNat)).length:Int)]) (by omega) (by omega) (by simp;omega)
    refine Mth.Evn.step (g:=fun k=>(impl_solutions.f k o (l.take i.toNat)).bind fun t=>if x4.length<17592186044416 then impl_LeftByClues.l0 k (x4++[(t.length:Int)]) ((l.length:Int)+1) (i+1) o l else none) (fun k=>?_) (hs.bind ?_)
    · simp only [impl_LeftByClues.l0]
      rw [if_pos (by omega),if_pos h0,if_pos (by omega),wrap_id (x:=i+1) (by omega) (by omega)]
    · refine Mth.Evn.congr (fun k=>if_pos (by omega)) ?_
      simpa [leftEnd] using ih
def bestEnd (o:Int) (l:List S51):Nat→Int→Int→Int→Int×Bool
  | 0,_,b,_=>(b,true)
  | n+1,i,b,m=>if i=0 then bestEnd o l n (i+1) i ((sols o ((l.take (i+1).toNat).drop i.toNat)).length:Int) else if ((sols o ((l.take (i+1).toNat).drop i.toNat)).length:Int)<m then bestEnd o l n (i+1) i ((sols o ((l.take (i+1).toNat).drop i.toNat)).length:Int) else bestEnd o l n (i+1) b m
theorem implBest_ev {o:Int} (ho:1≤o) (ho':o≤8) (l:List S51) (hl:l.length≤6):∀(n:Nat) (i b m:Int),0≤i→i+n=l.length→Mth.Evn (fun k=>impl_BestClue.l0 k b m (l.length:Int) i o l) (bestEnd o l n i b m)
  | 0,i,b,m,h0,hi=>by
    refine (Mth.Evn.now _).step fun k=>?_
    simp only [impl_BestClue.l0];rw [if_neg (by omega)];rfl
  | n+1,i,b,m,h0,hi=>by
    have hs:=solutions_ev ho ho' ((l.take (i+1).toNat).drop i.toNat) (by simp only [List.length_drop,List.length_take];omega)
    refine Mth.Evn.step (g:=fun k=>(impl_solutions.f k o ((l.take (i+1).toNat).drop i.toNat)).bind fun t=>if i=0 then impl_BestClue.l0 k i (t.length:Int) (l.length:Int) (i+1) o l else if (t.length:Int)<m then impl_BestClue.l0 k i (t.length:Int) (l.length:Int) (i+1) o l else impl_BestClue.l0 k b m (l.length:Int) (i+1) o l) (fun k=>?_) (hs.bind ?_)
    · simp only [impl_BestClue.l0]
      rw [wrap_id (x:=i+1) (by omega) (by omega),if_pos (by omega),if_pos h0,if_pos (by omega),if_pos (by omega)]
    · simp only [bestEnd]
      by_cases h1:i=0
      · simp only [if_pos h1];exact implBest_ev ho ho' l hl n (i+1) _ _ (by omega) (by omega)
      · simp only [if_neg h1]
        by_cases h2:((sols o ((l.take (i+1).toNat).drop i.toNat)).length:Int)<m
        · simp only [if_pos h2];exact implBest_ev ho ho' l hl n (i+1) _ _ (by omega) (by omega)
        · simp only [if_neg h2];exact implBest_ev ho ho' l hl n (i+1) _ _ (by omega) (by omega)
theorem specBest_ev {o:Int} (ho:1≤o) (ho':o≤8) (l:List S51) (hl:l.length≤6):∀(n:Nat) (i b m:Int),0≤i→i+n=l.length→Mth.Evn (fun k=>spec_BestClue.l0 k b m (l.length:Int) i o l) (bestEnd o l n i b m)
  | 0,i,b,m,h0,hi=>by
    refine (Mth.Evn.now _).step fun k=>?_
    simp only [spec_BestClue.l0];rw [if_neg (by omega)];rfl
  | n+1,i,b,m,h0,hi=>by
    have hs:=pzAll_ev ho ho' ((l.take (i+1).toNat).drop i.toNat) (by simp only [List.length_drop,List.length_take];omega)
    refine Mth.Evn.step (g:=fun k=>(spec_pzAll.f k o ((l.take (i+1).toNat).drop i.toNat)).bind fun t=>if i=0 then spec_BestClue.l0 k i (t.length:Int) (l.length:Int) (i+1) o l else if (t.length:Int)<m then spec_BestClue.l0 k i (t.length:Int) (l.length:Int) (i+1) o l else spec_BestClue.l0 k b m (l.length:Int) (i+1) o l) (fun k=>?_) (hs.bind ?_)
    · simp only [spec_BestClue.l0]
      rw [wrap_id (x:=i+1) (by omega) (by omega),if_pos (by omega),if_pos h0,if_pos (by omega),if_pos (by omega)]
    · simp only [bestEnd]
      by_cases h1:i=0
      · simp only [if_pos h1];exact specBest_ev ho ho' l hl n (i+1) _ _ (by omega) (by omega)
      · simp only [if_neg h1]
        by_cases h2:((sols o ((l.take (i+1).toNat).drop i.toNat)).length:Int)<m
        · simp only [if_pos h2];exact specBest_ev ho ho' l hl n (i+1) _ _ (by omega) (by omega)
        · simp only [if_neg h2];exact specBest_ev ho ho' l hl n (i+1) _ _ (by omega) (by omega)
def sureEnd:Int→Int→List S34→Int×Int×Bool
  | a,b,[]=>(a,b,true)
  | a,b,c::cs=>sureEnd (if c.f0=a then a else -1) (if c.f1=b then b else -1) cs
theorem sure_same:∀(k:Nat) (a b:Int) (L:List S34) (n i:Int),impl_SureChain.l0 k a b L n i=spec_SureChain.l0 k a b L n i
  | 0,_,_,_,_,_=>rfl
  | k+1,a,b,L,n,i=>by simp only [impl_SureChain.l0,spec_SureChain.l0,sure_same k]
theorem sure_ev (L:List S34) (hL:L.length≤1000):∀(n:Nat) (a b i:Int),0≤i→i+n=L.length→Mth.Evn (fun k=>spec_SureChain.l0 k a b L (L.length:Int) i) (sureEnd a b (L.drop i.toNat))
  | 0,a,b,i,h0,hi=>by
    rw [List.drop_eq_nil_of_le (by omega)]
    refine (Mth.Evn.now _).step fun k=>?_
    simp only [spec_SureChain.l0];rw [if_neg (by omega)];rfl
  | n+1,a,b,i,h0,hi=>by
    have hlt:i.toNat<L.length:=by omega
    rw [List.drop_eq_getElem_cons hlt]
    simp only [sureEnd]
    have ih:=sure_ev L hL n (if (L[i.toNat]).f0=a then a else -1) (if (L[i.toNat]).f1=b then b else -1) (i+1) (by omega) (by omega)
    rw [show (i+1).toNat=i.toNat+1 by omega] at ih
    refine Mth.Evn.step (fun k=>?_) ih
    simp only [spec_SureChain.l0]
    rw [if_pos (by omega),if_pos h0,if_pos (by omega),rds_get L i hlt,wrap_id (x:=i+1) (by omega) (by omega)]
    by_cases h1:(L[i.toNat]).f0=a
    · by_cases h2:(L[i.toNat]).f1=b
      · rw [if_pos h1,if_pos h2,if_pos h1,if_pos h2]
      · rw [if_pos h1,if_neg h2,if_pos h1,if_neg h2]
    · by_cases h2:(L[i.toNat]).f1=b
      · rw [if_neg h1,if_pos h2,if_neg h1,if_pos h2]
      · rw [if_neg h1,if_neg h2,if_neg h1,if_neg h2]
def dropEnd (o:Int) (l:List S51) (k:Int):Int×List S51×Bool:=if goodP o l=true∧0≤k∧k<l.length then (o,wout l k,true) else (0,[],false)
theorem implDrop_ev (o:Int) (l:List S51) (a:Int):Mth.Evn (fun k=>impl_DropClue.f k o l a) (dropEnd o l a):=by
  unfold impl_DropClue.f
  refine (IsPuzzle_evn _ _).bind ?_
  cases h:goodP o l with
  | true=>
    have h3:l.length≤6:=by
      unfold goodP at h;simp only [Bool.and_eq_true,decide_eq_true_eq] at h;exact h.2.1
    have ew:wrap64 ((l.length:Int) - 1)=(l.length:Int) - 1:=wrap_id (by omega) (by omega)
    refine Mth.Evn.congr (fun k=>if_pos rfl) ?_
    rw [ew,within_eq];simp only [Option.bind_some]
    by_cases h1:0≤a∧a≤(l.length:Int) - 1
    · have hv:dropEnd o l a=(o,wout l a,true):=by unfold dropEnd;rw [if_pos ⟨h,h1.1,by omega⟩]
      rw [hv,decide_eq_true h1]
      refine Mth.Evn.congr (fun k=>if_pos rfl) ?_
      rw [without_eq l a (by omega) h1.1 (by omega)];exact Mth.Evn.now _
    · have hv:dropEnd o l a=(0,[],false):=by unfold dropEnd;rw [if_neg (fun q=>h1 ⟨q.2.1,by have:=q.2.2;omega⟩)]
      rw [hv,decide_eq_false h1]
      exact Mth.Evn.congr (fun k=>if_neg (by simp)) (Mth.Evn.now _)
  | false=>
    have hv:dropEnd o l a=(0,[],false):=by unfold dropEnd;rw [if_neg (fun q=>by have:=q.1;rw [h] at this;cases this)]
    rw [hv]
    exact Mth.Evn.congr (fun k=>if_neg (by simp)) (Mth.Evn.now _)
def dig (n:Nat):ByteArray:=⟨(Lib.decDigits n).toArray⟩
theorem dec_small {n:Nat} (h:n<10):Lib.decDigits n=[UInt8.ofNat (48+n)]:=by rw [Lib.decDigits,dif_pos h]
theorem dec_big {n:Nat} (h:¬n<10):Lib.decDigits n=Lib.decDigits (n / 10)++[UInt8.ofNat (48+n % 10)]:=by rw [Lib.decDigits,dif_neg h]
theorem dec_len:∀(d n:Nat),n<10 ^ (d+1)→(Lib.decDigits n).length≤d+1
  | 0,n,h=>by rw [dec_small (by simpa using h)];simp
  | d+1,n,h=>by
    by_cases h10:n<10
    · rw [dec_small h10];simp
    · rw [dec_big h10]
      have:=dec_len d (n / 10) (by rw [Nat.pow_succ] at h;omega)
      simp;omega
theorem dig_size (d n:Nat) (h:n<10 ^ (d+1)):(dig n).size≤d+1:=by
  have:=dec_len d n h
  unfold dig;simpa [ByteArray.size] using this
theorem one_digit (n:Nat) (h:n<10):strOfNums [(wrap64 (48+(n:Int))) % 256]=⟨#[UInt8.ofNat (48+n)]⟩:=by
  rw [wrap_id (by omega) (by omega),show (48+(n:Int)) % 256=((48+n:Nat):Int) by omega];rfl
theorem bytes_app (a b:List UInt8):(⟨a.toArray⟩:ByteArray)++⟨b.toArray⟩=⟨(a++b).toArray⟩:=by
  apply ByteArray.ext
  simp
theorem l1Num_at:∀(d n k:Nat),n<10 ^ (d+1)→d<18→d<k→spec_l1Num.f k (n:Int)=some (dig n)
  | d,n,k,h,hd,hk=>by
    obtain ⟨k,rfl⟩:∃m,k=m+1:=⟨k - 1,by omega⟩
    have hp:n<10 ^ 18:=Nat.lt_of_lt_of_le h (Nat.pow_le_pow_right (by omega) (by omega))
    have e18:10 ^ 18=1000000000000000000:=by decide
    simp only [spec_l1Num.f]
    by_cases h10:n<10
    · rw [if_pos (by omega),one_digit n h10,dig,dec_small h10]
    · rw [if_neg (by omega)]
      have et:Int.tdiv (n:Int) 10=((n / 10:Nat):Int):=by rw [Int.tdiv_eq_ediv_of_nonneg (by omega)];omega
      have em:Int.tmod (n:Int) 10=((n % 10:Nat):Int):=by rw [Int.tmod_eq_emod_of_nonneg (by omega)];omega
      obtain ⟨d,rfl⟩:∃m,d=m+1:=⟨d - 1,by
        have:d≠0:=by rintro rfl;simp at h;omega
        omega⟩
      have h1:n / 10<10 ^ (d+1):=by rw [Nat.pow_succ] at h;omega
      rw [et,em,wrap_id (x:=((n / 10:Nat):Int)) (by omega) (by omega),l1Num_at d (n / 10) k h1 (by omega) (by omega)]
      simp only [Option.bind_some]
      rw [one_digit (n % 10) (by omega)]
      have hs:=dig_size d (n / 10) h1
      have h2:(⟨#[UInt8.ofNat (48+n % 10)]⟩:ByteArray).size=1:=rfl
      rw [if_pos (by omega)]
      rw [dig,dig,dec_big h10,← bytes_app]
theorem num_ev {z:Int} (h:0≤z) (h':z≤100):Mth.Evn (fun k=>spec_l1Num.f k z) (dig z.toNat):=by
  refine ⟨3,fun k hk=>?_⟩
  show spec_l1Num.f k z=_
  have:=l1Num_at 2 z.toNat k (by simp;omega) (by omega) (by omega)
  rwa [show ((z.toNat:Nat):Int)=z by omega] at this
theorem itoa_ev {z:Int} (h:0≤z) (h':z≤100):strconv_Itoa.f z=some (dig z.toNat):=by
  unfold strconv_Itoa.f
  rw [if_pos (by omega),Lib.itoa,if_neg (by omega)]
  rfl
theorem dg_size {z:Int} (h':z≤100):(dig z.toNat).size≤3:=dig_size 2 z.toNat (by simp;omega)
theorem z44:(⟨#[44]⟩:ByteArray).size=1:=rfl
theorem z46:(⟨#[46]⟩:ByteArray).size=1:=rfl
theorem z58:(⟨#[58]⟩:ByteArray).size=1:=rfl
def wB (x:S51):ByteArray:=((((dig x.f0.toNat)++(⟨#[46]⟩:ByteArray))++(dig x.f1.toNat))++(⟨#[46]⟩:ByteArray))++(dig x.f2.toNat)
def small (x:S51):Prop:=(0≤x.f0∧x.f0≤100)∧(0≤x.f1∧x.f1≤100)∧(0≤x.f2∧x.f2≤100)
theorem wB_size {x:S51} (h:small x):(wB x).size≤11:=by
  obtain ⟨h0,h1,h2⟩:=h
  have:=dg_size h0.2;have:=dg_size h1.2;have:=dg_size h2.2
  unfold wB
  simp only [ByteArray.size_append,z46];omega
def tl44 (l:List S51):List UInt8:=l.flatMap fun x=>44::(wB x).data.toList
def txt (l:List S51):List UInt8:=match l with
  | []=>[]
  | x::xs=>(wB x).data.toList++tl44 xs
theorem join44:∀(l:List S51),Lib.join ((l.map wB).map fun b=>b.data.toList) [44]=txt l
  | []=>by simp [Lib.join,List.intercalate,txt]
  | [x]=>by simp [Lib.join,List.intercalate,txt,tl44]
  | x::y::l=>by
    have ih:=join44 (y::l)
    simp only [Lib.join,List.intercalate,List.map_cons,txt] at ih ⊢
    rw [List.intersperse_cons_cons,List.flatten_cons,List.flatten_cons,ih]
    simp [tl44]
theorem tl44_len:∀(l:List S51),(∀x,x∈l→small x)→(tl44 l).length≤12*l.length
  | [],_=>by simp [tl44]
  | x::l,h=>by
    have ih:=tl44_len l (fun y hy=>h y (List.mem_cons_of_mem _ hy))
    have hb:=wB_size (h x List.mem_cons_self)
    have e:(wB x).data.toList.length=(wB x).size:=by rw [Array.length_toList];rfl
    unfold tl44 at ih ⊢
    rw [List.flatMap_cons,List.length_append,List.length_cons,List.length_cons,e];omega
theorem txt_len:∀(l:List S51),(∀x,x∈l→small x)→(txt l).length≤12*l.length
  | [],_=>by simp [txt]
  | x::l,h=>by
    have ih:=tl44_len l (fun y hy=>h y (List.mem_cons_of_mem _ hy))
    have hb:=wB_size (h x List.mem_cons_self)
    have e:(wB x).data.toList.length=(wB x).size:=by rw [Array.length_toList];rfl
    unfold txt
    rw [List.length_append,List.length_cons,e];omega
theorem app_size (a b:ByteArray):(a++b).size=a.size+b.size:=ByteArray.size_append
theorem pzText_l0 (l:List S51) (hl:l.length≤6) (hs:∀x,x∈l→small x):∀(d:Nat) (i:Nat) (acc:ByteArray),0<i→i+d=l.length→acc.size+12*d≤1000→
    Mth.Evn (fun k=>spec_pzText.l0 k acc l (l.length:Int) i) (⟨(acc.data.toList++tl44 (l.drop i)).toArray⟩:ByteArray)
  | 0,i,acc,h0,hi,ha=>by
    refine (Mth.Evn.now _).step fun k=>?_
    simp only [spec_pzText.l0]
    rw [if_neg (by omega),List.drop_of_length_le (by omega)]
    exact congrArg some (bytes_eq (by simp [tl44]))
  | d+1,i,acc,h0,hi,ha=>by
    have hlt:i<l.length:=by omega
    have er:rd_T51 l (i:Int)=l[i]:=by rw [rdg_get l (i:Int) (by omega)];rfl
    obtain ⟨g0,g1,g2⟩:=hs _ (List.getElem_mem hlt)
    have s0:=dg_size g0.2;have s1:=dg_size g1.2;have s2:=dg_size g2.2
    have hw:=wB_size (hs _ (List.getElem_mem hlt))
    have e:acc.data.toList++tl44 (l.drop i)=((acc++(⟨#[44]⟩:ByteArray))++wB l[i]).data.toList++tl44 (l.drop (i+1)):=by
      have et:tl44 (l.drop i)=44::((wB l[i]).data.toList++tl44 (l.drop (i+1))):=by rw [List.drop_eq_getElem_cons hlt];unfold tl44;rw [List.flatMap_cons];rfl
      rw [et,app_list,app_list,List.append_assoc,List.append_assoc];rfl
    have ih:=pzText_l0 l hl hs d (i+1) ((acc++(⟨#[44]⟩:ByteArray))++wB l[i]) (by omega) (by omega) (by rw [app_size,app_size,z44];omega)
    rw [← e] at ih
    refine Mth.Evn.step (fun k=>by simp only [spec_pzText.l0,er];rw [if_pos (by omega),if_pos (by omega),if_pos (by omega),if_pos (by omega),if_pos (by omega)]) ?_
    refine (num_ev g0.1 g0.2).bind ?_
    refine Mth.Evn.congr (fun k=>if_pos (by omega)) ?_
    refine (num_ev g1.1 g1.2).bind ?_
    refine Mth.Evn.congr (fun k=>(if_pos (by rw [app_size,z46];omega)).trans (if_pos (by rw [app_size,app_size,z46];omega))) ?_
    refine (num_ev g2.1 g2.2).bind ?_
    refine Mth.Evn.congr (fun k=>(if_pos (by rw [app_size,app_size,app_size,z46];omega)).trans (if_pos (by show _+(wB l[i]).size≤_;rw [app_size,z44];omega))) ?_
    refine Mth.Evn.congr (fun k=>?_) ih
    rw [wrap_id (x:=(i:Int)+1) (by omega) (by omega)]
    rfl
theorem pzText_ev {o:Int} (ho:0≤o) (ho':o≤100) (l:List S51) (hl:l.length≤6) (hs:∀x,x∈l→small x):Mth.Evn (fun k=>spec_pzText.f k o l) (⟨((dig o.toNat).data.toList++[58]++txt l).toArray⟩:ByteArray):=by
  have so:=dg_size ho'
  unfold spec_pzText.f
  refine (num_ev ho ho').bind ?_
  refine Mth.Evn.congr (fun k=>if_pos (by omega)) ?_
  cases l with
  | nil=>
    refine (Mth.Evn.now _).step fun k=>?_
    simp only [spec_pzText.l0]
    rw [if_neg (by simp)]
    exact congrArg some (bytes_eq (by rw [app_list];simp [txt]))
  | cons x xs=>
    have hx:=hs x List.mem_cons_self
    obtain ⟨g0,g1,g2⟩:=id hx
    have s0:=dg_size g0.2;have s1:=dg_size g1.2;have s2:=dg_size g2.2
    have hw:=wB_size hx
    have er:rd_T51 (x::xs) (0:Int)=x:=by rw [rdg_get (x::xs) (0:Int) (by simp)];rfl
    have ln:(x::xs).length=xs.length+1:=rfl
    have ih:=pzText_l0 (x::xs) hl hs xs.length 1 ((dig o.toNat++(⟨#[58]⟩:ByteArray))++wB x) (by omega) (by rw [ln];omega) (by rw [app_size,app_size,z58];omega)
    have e:((dig o.toNat++(⟨#[58]⟩:ByteArray))++wB x).data.toList++tl44 ((x::xs).drop 1)=(dig o.toNat).data.toList++[58]++txt (x::xs):=by
      rw [app_list,app_list,List.append_assoc];rfl
    rw [e] at ih
    refine Mth.Evn.step (fun k=>by simp only [spec_pzText.l0,er];rw [if_pos (by omega),if_pos (by omega),if_pos (by omega),if_neg (by omega)]) ?_
    refine (num_ev g0.1 g0.2).bind ?_
    refine Mth.Evn.congr (fun k=>if_pos (by omega)) ?_
    refine (num_ev g1.1 g1.2).bind ?_
    refine Mth.Evn.congr (fun k=>(if_pos (by rw [app_size,z46];omega)).trans (if_pos (by rw [app_size,app_size,z46];omega))) ?_
    refine (num_ev g2.1 g2.2).bind ?_
    refine Mth.Evn.congr (fun k=>(if_pos (by rw [app_size,app_size,app_size,z46];omega)).trans (if_pos (by show _+(wB x).size≤_;rw [app_size,z58];omega))) ?_
    refine Mth.Evn.congr (fun k=>?_) ih
    rw [wrap_id (x:=(0:Int)+1) (by omega) (by omega)]
    rfl
theorem join_ev {l:List ByteArray} {s:ByteArray} (hl:l.length≤1000) {r:List UInt8} (hr:Lib.join (l.map fun b=>b.data.toList) s.data.toList=r) (hz:r.length≤1000000):strings_Join.f l s=some ⟨r.toArray⟩:=by
  unfold strings_Join.f
  rw [hr,if_pos ⟨by omega,by omega⟩]
theorem joined_ev {x:S51} (h:small x):Mth.Evn (fun k=>impl_joined.f k [x.f0,x.f1,x.f2] (⟨#[46]⟩:ByteArray)) (wB x):=by
  obtain ⟨h0,h1,h2⟩:=id h
  have hw:=wB_size h
  have j:strings_Join.f [dig x.f0.toNat,dig x.f1.toNat,dig x.f2.toNat] (⟨#[46]⟩:ByteArray)=some (wB x):=by
    have e:(wB x).data.toList=Lib.join ([dig x.f0.toNat,dig x.f1.toNat,dig x.f2.toNat].map fun b=>b.data.toList) (⟨#[46]⟩:ByteArray).data.toList:=by
      unfold wB
      simp [Lib.join,List.intercalate,app_list]
    have el:(wB x).data.toList.length=(wB x).size:=by rw [Array.length_toList];rfl
    rw [join_ev (by simp) e.symm (by omega)]
  unfold impl_joined.f
  refine Mth.Evn.congr (fun k=>(if_pos (by simp)).trans (if_pos (by simp))) ?_
  have i0:=itoa_ev h0.1 h0.2
  have i1:=itoa_ev h1.1 h1.2
  have i2:=itoa_ev h2.1 h2.2
  have hE:Mth.Evn (fun k=>impl_joined.l0 k (⟨#[46]⟩:ByteArray) [(⟨#[]⟩:ByteArray),(⟨#[]⟩:ByteArray),(⟨#[]⟩:ByteArray)] [x.f0,x.f1,x.f2] 3 0) (wB x):=by
    have w1:wrap64 (0+1)=1:=wrap_id (by omega) (by omega)
    have w2:wrap64 (1+1)=2:=wrap_id (by omega) (by omega)
    have w3:wrap64 (2+1)=3:=wrap_id (by omega) (by omega)
    have r0:rd [x.f0,x.f1,x.f2] 0=x.f0:=rfl
    have r1:rd [x.f0,x.f1,x.f2] 1=x.f1:=rfl
    have r2:rd [x.f0,x.f1,x.f2] 2=x.f2:=rfl
    refine Mth.Evn.step (g:=fun k=>impl_joined.l0 k (⟨#[46]⟩:ByteArray) [dig x.f0.toNat,(⟨#[]⟩:ByteArray),(⟨#[]⟩:ByteArray)] [x.f0,x.f1,x.f2] 3 1) (fun k=>?_) ?_
    · simp only [impl_joined.l0,r0,i0,w1];rfl
    refine Mth.Evn.step (g:=fun k=>impl_joined.l0 k (⟨#[46]⟩:ByteArray) [dig x.f0.toNat,dig x.f1.toNat,(⟨#[]⟩:ByteArray)] [x.f0,x.f1,x.f2] 3 2) (fun k=>?_) ?_
    · simp only [impl_joined.l0,r1,i1,w2];rfl
    refine Mth.Evn.step (g:=fun k=>impl_joined.l0 k (⟨#[46]⟩:ByteArray) [dig x.f0.toNat,dig x.f1.toNat,dig x.f2.toNat] [x.f0,x.f1,x.f2] 3 3) (fun k=>?_) ?_
    · simp only [impl_joined.l0,r2,i2,w3];rfl
    refine (Mth.Evn.now _).step fun k=>?_
    simp only [impl_joined.l0,j];rfl
  exact hE
theorem impl_l0 {o:Int} (ho:0≤o) (ho':o≤100) (l:List S51) (hl:l.length≤6) (hs:∀x,x∈l→small x):∀(d i:Nat) (out:List ByteArray),i+d=l.length→out.length=l.length→(∀j:Nat,j<i→out[j]? = (l.map wB)[j]?)→
    Mth.Evn (fun k=>impl_PuzzleText.l0 k out l (l.length:Int) i o l) ((⟨((dig o.toNat).data.toList++[58]++txt l).toArray⟩:ByteArray),true)
  | 0,i,out,hi,ho1,hj=>by
    have e:out=l.map wB:=by
      apply List.ext_getElem?
      intro j
      by_cases h:j<i
      · exact hj j h
      · rw [List.getElem?_eq_none (by omega),List.getElem?_eq_none (by simp;omega)]
    have ht:=txt_len l hs
    have so:=dg_size ho'
    have et:(⟨(txt l).toArray⟩:ByteArray).size=(txt l).length:=rfl
    refine (Mth.Evn.now _).step fun k=>?_
    simp only [impl_PuzzleText.l0]
    rw [if_neg (by omega),itoa_ev ho ho',e,join_ev (by simp;omega) (join44 l) (by omega)]
    simp only [Option.bind_some]
    rw [if_pos (by omega),if_pos (by rw [app_size,z58,et];omega)]
    exact congrArg (fun b=>some (b,true)) (bytes_eq (by rw [app_list,app_list]))
  | d+1,i,out,hi,ho1,hj=>by
    have hlt:i<l.length:=by omega
    have er:rd_T51 l (i:Int)=l[i]:=by rw [rdg_get l (i:Int) (by omega)];rfl
    have ih:=impl_l0 ho ho' l hl hs d (i+1) (out.set i (wB l[i])) (by omega) (by simpa using ho1) (fun j hjl=>by
      by_cases h:j=i
      · subst h
        rw [List.getElem?_set_self (by omega),List.getElem?_map,List.getElem?_eq_getElem hlt];rfl
      · rw [List.getElem?_set_ne (by omega)];exact hj j (by omega))
    refine Mth.Evn.step (fun k=>by simp only [impl_PuzzleText.l0,er];rw [if_pos (by omega),if_pos (by omega),if_pos (by omega)]) ?_
    refine (joined_ev (hs _ (List.getElem_mem hlt))).bind ?_
    refine Mth.Evn.congr (fun k=>?_) ih
    rw [if_pos (by omega),wrap_id (x:=(i:Int)+1) (by omega) (by omega)]
    rfl
theorem n46 (n:Nat):(46:UInt8) ∉ Lib.decDigits n:=no_sep (by decide) n
theorem n44 (n:Nat):(44:UInt8) ∉ Lib.decDigits n:=no_sep (by decide) n
theorem n58 (n:Nat):(58:UInt8) ∉ Lib.decDigits n:=no_sep (by decide) n
theorem pre {α β:Type} {f:Option α} {a:α} {F:Nat→α→Option β} {r:β} (h:f=some a) (hE:Mth.Evn (fun k=>F k a) r):Mth.Evn (fun k=>f.bind (F k)) r:=by
  subst h;exact hE
def joinC (c:UInt8):List (List UInt8)→List UInt8
  | []=>[]
  | [x]=>x
  | x::y::l=>x++c::joinC c (y::l)
theorem joinC_cons (c:UInt8) (x:List UInt8) {L:List (List UInt8)} (h:L≠[]):joinC c (x::L)=x++c::joinC c L:=by
  cases L with
  | nil=>exact absurd rfl h
  | cons y l=>rfl
theorem pieces_ne (c:UInt8) (s cur:List UInt8):pieces c cur s≠[]:=fun e=>by
  have:=pieces_pos (c:=c) s cur
  rw [e] at this
  exact absurd this (by simp)
theorem join_pieces (c:UInt8):∀(s cur:List UInt8),joinC c (pieces c cur s)=cur++s
  | [],cur=>by rw [pieces,List.append_nil];rfl
  | b::s,cur=>by
    rw [pieces]
    split
    · rename_i h
      rw [joinC_cons _ _ (pieces_ne c s []),join_pieces c s [],h];rfl
    · rw [join_pieces c s (cur++[b]),List.append_assoc];rfl
theorem pieces_join (c:UInt8):∀(L:List (List UInt8)),L≠[]→(∀w,w∈L→c ∉ w)→pieces c [] (joinC c L)=L
  | [],h,_=>absurd rfl h
  | [x],_,h=>pieces_none [] (h x List.mem_cons_self)
  | x::y::l,_,h=>by
    rw [joinC_cons c x (by simp),pieces_at _ _ (h x List.mem_cons_self),pieces_join c (y::l) (by simp) (fun w hw=>h w (List.mem_cons_of_mem _ hw))];rfl
def wl (x:S51):List UInt8:=Lib.decDigits x.f0.toNat++46::(Lib.decDigits x.f1.toNat++46::Lib.decDigits x.f2.toNat)
theorem wB_list (x:S51):(wB x).data.toList=wl x:=by
  unfold wB wl
  rw [app_list,app_list,app_list,app_list]
  show Lib.decDigits x.f0.toNat++[46]++Lib.decDigits x.f1.toNat++[46]++Lib.decDigits x.f2.toNat=_
  simp
theorem txt_join:∀l:List S51,txt l=joinC 44 (l.map wl)
  | []=>rfl
  | [x]=>by
    show (wB x).data.toList++tl44 []=wl x
    rw [wB_list];unfold tl44;simp
  | x::y::l=>by
    have ih:=txt_join (y::l)
    rw [List.map_cons,joinC_cons _ _ (by simp),← ih,← wB_list x]
    show (wB x).data.toList++tl44 (y::l)=(wB x).data.toList++44::txt (y::l)
    refine congrArg (fun z=>(wB x).data.toList++z) ?_
    unfold tl44 txt
    rw [List.flatMap_cons];rfl
theorem wl_46 (x:S51):pieces 46 [] (wl x)=[x.f0.toNat,x.f1.toNat,x.f2.toNat].map Lib.decDigits:=by
  unfold wl
  rw [pieces_at _ _ (n46 _),pieces_at _ _ (n46 _),pieces_none _ (n46 _)];rfl
theorem wl_no {c:UInt8} (h:¬(48≤c.toNat∧c.toNat≤57)) (h2:c≠46) (x:S51):c ∉ wl x:=by
  unfold wl
  intro e
  rcases List.mem_append.1 e with e|e
  · exact no_sep h _ e
  rcases List.mem_cons.1 e with e|e
  · exact h2 e
  rcases List.mem_append.1 e with e|e
  · exact no_sep h _ e
  rcases List.mem_cons.1 e with e|e
  · exact h2 e
  · exact no_sep h _ e
theorem joinC_no {c d:UInt8} (hd:c≠d):∀L:List (List UInt8),(∀w,w∈L→c ∉ w)→c ∉ joinC d L
  | [],_=>by simp [joinC]
  | [x],h=>h x List.mem_cons_self
  | x::y::l,h=>by
    rw [joinC_cons d x (by simp)]
    intro e
    rcases List.mem_append.1 e with e|e
    · exact h x List.mem_cons_self e
    rcases List.mem_cons.1 e with e|e
    · exact hd e
    · exact joinC_no hd (y::l) (fun w hw=>h w (List.mem_cons_of_mem _ hw)) e
theorem txt_58 (l:List S51):(58:UInt8) ∉ txt l:=by
  rw [txt_join]
  refine joinC_no (by decide) _ (fun w hw=>?_)
  obtain ⟨x,_,rfl⟩:=List.mem_map.1 hw
  exact wl_no (by decide) (by decide) x
theorem txt_44 {l:List S51} (h:l≠[]):pieces 44 [] (txt l)=l.map wl:=by
  rw [txt_join]
  refine pieces_join 44 _ (by simpa using h) (fun w hw=>?_)
  obtain ⟨x,_,rfl⟩:=List.mem_map.1 hw
  exact wl_no (by decide) (by decide) x
theorem wl_ne (x:S51):wl x≠[]:=by unfold wl;simp
theorem txt_ne {l:List S51} (h:l≠[]):txt l≠[]:=by
  cases l with
  | nil=>exact absurd rfl h
  | cons x l=>
    show (wB x).data.toList++tl44 l≠[]
    rw [wB_list]
    intro e
    exact wl_ne x (List.append_eq_nil_iff.1 e).1
def P (o:Int) (l:List S51):List UInt8:=Lib.decDigits o.toNat++58::txt l
theorem P_58 (o:Int) (l:List S51):pieces 58 [] (P o l)=[Lib.decDigits o.toNat,txt l]:=by
  unfold P
  rw [pieces_at _ _ (n58 _),pieces_none _ (txt_58 l)];rfl
theorem good_of {o:Int} {l:List S51} (h:goodP o l=true):(1≤o∧o≤8)∧l.length≤6∧∀x,x∈l→small x:=by
  unfold goodP at h
  simp only [Bool.and_eq_true,decide_eq_true_eq,List.all_eq_true] at h
  obtain ⟨h1,h2,h3⟩:=h
  refine ⟨h1,h2,fun x hx=>?_⟩
  obtain ⟨c1,c2,c3⟩:=h3 x hx
  exact ⟨by omega,c1,c2⟩
theorem P_len {o:Int} {l:List S51} (h:goodP o l=true):(P o l).length≤100:=by
  obtain ⟨h1,h2,h3⟩:=good_of h
  have:=txt_len l h3
  have:=dec_len3 (n:=o.toNat) (by omega)
  unfold P
  rw [List.length_append,List.length_cons];omega
def specEnd (k:Nat) (t:ByteArray) (o:Int) (l:List S51):Option (Int×List S51×Bool):=(spec_pzGood.f k o l).bind fun t146=>(if t146=true then ((spec_pzText.f k o l).bind fun t147=>(some (o,l,(t147.toList==t.toList)))) else (some (o,l,false)))
theorem end_yes {t:ByteArray} {o:Int} {l:List S51} (h:goodP o l=true) (ht:t.data.toList=P o l):Mth.Evn (fun k=>specEnd k t o l) (o,l,true):=by
  obtain ⟨h1,h2,h3⟩:=good_of h
  have hg:=pzGood_evn o l
  rw [h] at hg
  unfold specEnd
  refine hg.bind ?_
  refine Mth.Evn.congr (fun k=>if_pos rfl) ?_
  refine (pzText_ev (o:=o) (by omega) (by omega) l h2 h3).bind ?_
  have e:((⟨((dig o.toNat).data.toList++[58]++txt l).toArray⟩:ByteArray).toList==t.toList)=true:=by
    rw [beq_iff_eq,dtl,dtl,ht]
    unfold P
    show Lib.decDigits o.toNat++[58]++txt l=_
    simp
  rw [e]
  exact Mth.Evn.now _
theorem end_any (t:ByteArray) (o:Int) (l:List S51):∃r,Mth.Evn (fun k=>specEnd k t o l) r∧(r.2.2=true→goodP r.1 r.2.1=true∧t.data.toList=P r.1 r.2.1):=by
  have hg:=pzGood_evn o l
  cases h:goodP o l with
  | false=>
    rw [h] at hg
    refine ⟨(o,l,false),?_,fun e=>by cases e⟩
    unfold specEnd
    exact hg.bind (Mth.Evn.congr (fun k=>if_neg (by simp)) (Mth.Evn.now _))
  | true=>
    rw [h] at hg
    obtain ⟨h1,h2,h3⟩:=good_of h
    have hp:=pzText_ev (o:=o) (by omega) (by omega) l h2 h3
    refine ⟨(o,l,((⟨((dig o.toNat).data.toList++[58]++txt l).toArray⟩:ByteArray).toList==t.toList)),?_,?_⟩
    · unfold specEnd
      exact hg.bind (Mth.Evn.congr (fun k=>if_pos rfl) (hp.bind (Mth.Evn.now _)))
    · intro e
      have e2:=beq_iff_eq.1 (show ((⟨((dig o.toNat).data.toList++[58]++txt l).toArray⟩:ByteArray).toList==t.toList)=true from e)
      rw [dtl,dtl] at e2
      refine ⟨h,?_⟩
      rw [← e2]
      unfold P
      show Lib.decDigits o.toNat++[58]++txt l=_
      simp
theorem mkB_map (l:List S51) (f:S51→List UInt8):(l.map f).map mkB=l.map fun x=>mkB (f x):=by rw [List.map_map];rfl
theorem rd_map {l:List S51} {i:Nat} (h:i<l.length) (f:S51→ByteArray):rdOf ByteArray.empty (l.map f) (i:Int)=f l[i]:=by
  unfold rdOf
  rw [List.getD_eq_getElem?_getD,Int.toNat_natCast,List.getElem?_map,List.getElem?_eq_getElem h];rfl
theorem rd_at {L:List ByteArray} {i:Nat} (h:i<L.length):rdOf ByteArray.empty L (i:Int)=L[i]:=by
  unfold rdOf
  rw [List.getD_eq_getElem?_getD,Int.toNat_natCast,List.getElem?_eq_getElem h];rfl
theorem clue_back {x:S51} (h:small x):(⟨((x.f0.toNat:Nat):Int),((x.f1.toNat:Nat):Int),((x.f2.toNat:Nat):Int)⟩:S51)=x:=by
  obtain ⟨h0,h1,h2⟩:=h
  rw [show ((x.f0.toNat:Nat):Int)=x.f0 by omega,show ((x.f1.toNat:Nat):Int)=x.f1 by omega,show ((x.f2.toNat:Nat):Int)=x.f2 by omega]
theorem small_nat {x:S51} (h:small x):x.f0.toNat≤100∧x.f1.toNat≤100∧x.f2.toNat≤100:=by
  obtain ⟨h0,h1,h2⟩:=h
  omega
theorem wl_size {x:S51} (h:small x):(mkB (wl x)).size≤11:=by
  have:=wB_size h
  rw [size_list,wB_list] at this
  exact this
theorem specLoop_yes {t:ByteArray} {o:Int} {l:List S51} (h:goodP o l=true) (ht:t.data.toList=P o l):∀(d i:Nat),i+d=l.length→
    Mth.Evn (fun k=>spec_pzParse.l0 k t (l.map fun x=>mkB (wl x)) (l.length:Int) i o (l.take i)) (o,l,true)
  | 0,i,hi=>by
    refine (end_yes h ht).step fun k=>?_
    simp only [spec_pzParse.l0]
    rw [if_neg (by omega),List.take_of_length_le (by omega)]
    rfl
  | d+1,i,hi=>by
    obtain ⟨h1,h2,h3⟩:=good_of h
    have hlt:i<l.length:=by omega
    have hx:=h3 _ (List.getElem_mem hlt)
    obtain ⟨x0,x1,x2⟩:=small_nat hx
    have ih:=specLoop_yes h ht d (i+1) (by omega)
    have hs:=l1Split_ev (t:=mkB (wl l[i])) (by have:=wl_size hx;omega) 46
    rw [mkB_list,wl_46] at hs
    have ew:wrap64 ((i:Int)+1)=((i+1:Nat):Int):=by rw [wrap_id (by omega) (by omega)];omega
    have et:l.take i++[(⟨((l[i].f0.toNat:Nat):Int),((l[i].f1.toNat:Nat):Int),((l[i].f2.toNat:Nat):Int)⟩:S51)]=l.take (i+1):=by
      rw [clue_back hx,List.take_add_one,List.getElem?_eq_getElem hlt];rfl
    refine Mth.Evn.step (fun k=>by simp only [spec_pzParse.l0,rd_map hlt];rw [if_pos (by omega),if_pos (by omega),if_pos (by simp;omega)]) ?_
    refine hs.bind ?_
    refine Mth.Evn.congr (fun k=>(if_pos (by simp)).trans (if_pos (by simp))) ?_
    refine (read_yes x0).bind ?_
    refine Mth.Evn.congr (fun k=>if_pos (by simp)) ?_
    refine (read_yes x1).bind ?_
    refine Mth.Evn.congr (fun k=>if_pos (by simp)) ?_
    refine (read_yes x2).bind ?_
    refine Mth.Evn.congr (fun k=>if_pos (by rw [List.length_take];omega)) ?_
    rw [ew,et]
    exact ih
theorem specLoop_any (t:ByteArray) (W:List ByteArray) (hW:W.length≤2000000) (hs:∀w,w∈W→w.size≤2000000):∀(d i:Nat) (o:Int) (acc:List S51),i+d=W.length→acc.length=i→
    ∃r,Mth.Evn (fun k=>spec_pzParse.l0 k t W (W.length:Int) i o acc) r∧(r.2.2=true→goodP r.1 r.2.1=true∧t.data.toList=P r.1 r.2.1)
  | 0,i,o,acc,hi,ha=>by
    obtain ⟨r,hr,hb⟩:=end_any t o acc
    refine ⟨r,hr.step fun k=>?_,hb⟩
    simp only [spec_pzParse.l0]
    rw [if_neg (by omega)]
    rfl
  | d+1,i,o,acc,hi,ha=>by
    have hlt:i<W.length:=by omega
    have ew:wrap64 ((i:Int)+1)=((i+1:Nat):Int):=by rw [wrap_id (by omega) (by omega)];omega
    have hw:=l1Split_ev (t:=W[i]) (hs _ (List.getElem_mem hlt)) 46
    by_cases hl:(pieces 46 [] (W[i]).data.toList).length=3
    · match hp:pieces 46 [] (W[i]).data.toList,hl with
      | [a,b,c],_=>
        rw [hp] at hw
        obtain ⟨ra,ea,_⟩:=read_back (mkB a)
        obtain ⟨rb,eb,_⟩:=read_back (mkB b)
        obtain ⟨rc,ec,_⟩:=read_back (mkB c)
        obtain ⟨r,hr,hb⟩:=specLoop_any t W hW hs d (i+1) o (acc++[⟨ra,rb,rc⟩]) (by omega) (by simp;omega)
        refine ⟨r,?_,hb⟩
        refine Mth.Evn.step (fun k=>by simp only [spec_pzParse.l0,rd_at hlt];rw [if_pos (by omega),if_pos (by omega),if_pos (by omega)]) ?_
        refine hw.bind ?_
        refine Mth.Evn.congr (fun k=>(if_pos (by simp)).trans (if_pos (by simp))) ?_
        refine ea.bind ?_
        refine Mth.Evn.congr (fun k=>if_pos (by simp)) ?_
        refine eb.bind ?_
        refine Mth.Evn.congr (fun k=>if_pos (by simp)) ?_
        refine ec.bind ?_
        refine Mth.Evn.congr (fun k=>if_pos (by omega)) ?_
        rw [ew]
        exact hr
    · refine ⟨(0,[],false),?_,fun e=>by cases e⟩
      refine Mth.Evn.step (fun k=>by simp only [spec_pzParse.l0,rd_at hlt];rw [if_pos (by omega),if_pos (by omega),if_pos (by omega)]) ?_
      refine hw.bind ?_
      exact Mth.Evn.congr (fun k=>if_neg (by rw [List.length_map];omega)) (Mth.Evn.now _)
theorem ps_yes {t:ByteArray} {o:Int} {l:List S51} (h:goodP o l=true) (ht:t.data.toList=P o l):Mth.Evn (fun k=>spec_ParsePuzzle.f k t) (o,l,true):=by
  have hl:=size_list t
  have hz:=P_len h
  rw [ht] at hl
  obtain ⟨h1,h2,h3⟩:=good_of h
  have h100:¬(t.size:Int)>100:=by omega
  have s58:=l1Split_ev (t:=t) (by omega) 58
  rw [ht,P_58] at s58
  have htx:=txt_len l h3
  have hr:=read_yes (n:=o.toNat) (by omega)
  rw [show ((o.toNat:Nat):Int)=o by omega] at hr
  have main:Mth.Evn (fun k=>spec_pzParse.f k t) (o,l,true):=by
    unfold spec_pzParse.f
    refine s58.bind ?_
    refine Mth.Evn.congr (fun k=>if_neg h100) ?_
    refine Mth.Evn.step (fun k=>by simp only [spec_pzParse.j0];rw [if_neg (by simp),if_pos (by simp)]) ?_
    refine hr.bind ?_
    refine Mth.Evn.congr (fun k=>if_pos (by simp)) ?_
    have e1:∀a b:ByteArray,rdOf ByteArray.empty [a,b] 1=b:=fun a b=>rfl
    by_cases hc:l=[]
    · subst hc
      refine Mth.Evn.congr (fun k=>if_neg ?_) (end_yes h ht)
      show ¬(((mkB (txt ([]:List S51))).size:Int)>0)
      rw [mkB_size]
      simp [txt]
    · have hne:0<(txt l).length:=List.length_pos_iff.2 (txt_ne hc)
      refine Mth.Evn.congr (fun k=>if_pos (show ((mkB (txt l)).size:Int)>0 by rw [mkB_size];omega)) ?_
      have s44:=l1Split_ev (t:=mkB (txt l)) (by rw [mkB_size];omega) 44
      rw [mkB_list,txt_44 hc,mkB_map] at s44
      refine s44.bind ?_
      have hlp:=specLoop_yes h ht l.length 0 (by omega)
      rw [List.take_zero] at hlp
      rw [List.length_map]
      exact hlp
  unfold spec_ParsePuzzle.f
  exact main.bind (Mth.Evn.congr (fun k=>if_pos rfl) (Mth.Evn.now _))
theorem ps_any {t:ByteArray} (hz:t.size≤2000000):∃r,Mth.Evn (fun k=>spec_ParsePuzzle.f k t) r∧(r=(0,[],false)∨(goodP r.1 r.2.1=true∧t.data.toList=P r.1 r.2.1)):=by
  have main:∃r,Mth.Evn (fun k=>spec_pzParse.f k t) r∧(r.2.2=true→goodP r.1 r.2.1=true∧t.data.toList=P r.1 r.2.1):=by
    have jt:∀L,Mth.Evn (fun k=>spec_pzParse.j0 k t L true) (0,[],false):=fun L=>(Mth.Evn.now _).step fun k=>by simp only [spec_pzParse.j0];rw [if_pos trivial]
    have s58:=l1Split_ev hz 58
    unfold spec_pzParse.f
    by_cases h8:(t.size:Int)>100
    · exact ⟨_,s58.bind (Mth.Evn.congr (fun k=>if_pos h8) (jt _)),fun e=>by cases e⟩
    by_cases hl:(pieces 58 [] t.data.toList).length=2
    · match hp:pieces 58 [] t.data.toList,hl with
      | [p,q],_=>
        have hpq:=pieces_two hp
        have hsz:=size_list t
        rw [hpq] at hsz
        simp at hsz
        rw [hp] at s58
        obtain ⟨o,ho,_⟩:=read_back (mkB p)
        by_cases hq:(q.length:Int)>0
        · have s44:=l1Split_ev (t:=mkB q) (by rw [mkB_size];omega) 44
          rw [mkB_list] at s44
          have hw:=pieces_len (c:=44) q []
          obtain ⟨r,hr,hb⟩:=specLoop_any t ((pieces 44 [] q).map mkB) (by rw [List.length_map];omega) (fun w hw=>by
            obtain ⟨v,hv,rfl⟩:=List.mem_map.1 hw
            have:=pieces_piece _ _ _ hv
            rw [mkB_size]
            simp at this;omega) ((pieces 44 [] q).map mkB).length 0 o [] (by omega) rfl
          refine ⟨r,?_,hb⟩
          refine s58.bind ?_
          refine Mth.Evn.congr (fun k=>if_neg h8) ?_
          refine Mth.Evn.step (fun k=>by simp only [spec_pzParse.j0];rw [if_neg (by simp),if_pos (by simp)]) ?_
          refine ho.bind ?_
          refine Mth.Evn.congr (fun k=>(if_pos (by simp)).trans (if_pos hq)) ?_
          refine s44.bind ?_
          exact hr
        · obtain ⟨r,hr,hb⟩:=end_any t o []
          refine ⟨r,?_,hb⟩
          refine s58.bind ?_
          refine Mth.Evn.congr (fun k=>if_neg h8) ?_
          refine Mth.Evn.step (fun k=>by simp only [spec_pzParse.j0];rw [if_neg (by simp),if_pos (by simp)]) ?_
          refine ho.bind ?_
          exact Mth.Evn.congr (fun k=>(if_pos (by simp)).trans (if_neg hq)) hr
    · refine ⟨_,s58.bind (Mth.Evn.congr (fun k=>(if_neg h8).trans ?_) (jt ((pieces 58 [] t.data.toList).map mkB))),fun e=>by cases e⟩
      rw [show ((((pieces 58 [] t.data.toList).map mkB).length:Int) != 2)=true from bne_iff_ne.2 (by rw [List.length_map];omega)]
  obtain ⟨⟨o,l,b⟩,hr,hb⟩:=main
  unfold spec_ParsePuzzle.f
  cases b with
  | true=>exact ⟨(o,l,true),hr.bind (Mth.Evn.congr (fun k=>if_pos rfl) (Mth.Evn.now _)),.inr (hb rfl)⟩
  | false=>exact ⟨(0,[],false),hr.bind (Mth.Evn.congr (fun k=>if_neg (by simp)) (Mth.Evn.now _)),.inl rfl⟩
theorem cut_eq {t:ByteArray} (ht:t.size≤2000000) (c:UInt8) {x y:List UInt8} {f:Bool} (h:Lib.cut t.data.toList [c]=(x,y,f)):strings_Cut.f t (sepB c)=some (mkB x,mkB y,f):=by
  unfold strings_Cut.f
  rw [if_pos (by omega)]
  show some ((⟨(Lib.cut t.data.toList [c]).1.toArray⟩:ByteArray),(⟨(Lib.cut t.data.toList [c]).2.1.toArray⟩:ByteArray),(Lib.cut t.data.toList [c]).2.2)=_
  rw [h];rfl
theorem split_eq {t:ByteArray} (ht:t.size≤2000000) (c:UInt8):strings_Split.f t (sepB c)=some ((pieces c [] t.data.toList).map mkB):=by
  unfold strings_Split.f
  rw [if_pos ⟨by omega,Nat.le_refl 1⟩,split_pieces c t.size t (Nat.le_refl _)]
theorem isP_yes {o:Int} {l:List S51} (h:goodP o l=true):Mth.Evn (fun k=>(impl_IsPuzzle.f k o l).bind fun t215=>(if t215=true then (some (o,l,true)) else (some (0,([]:List S51),false)))) (o,l,true):=by
  have hg:=IsPuzzle_evn o l
  rw [h] at hg
  exact hg.bind (Mth.Evn.congr (fun k=>if_pos rfl) (Mth.Evn.now _))
theorem isP_any (o:Int) (l:List S51):∃r,Mth.Evn (fun k=>(impl_IsPuzzle.f k o l).bind fun t215=>(if t215=true then (some (o,l,true)) else (some (0,([]:List S51),false)))) r∧(r=(0,[],false)∨(goodP o l=true∧r=(o,l,true))):=by
  cases h:goodP o l with
  | true=>exact ⟨_,isP_yes h,.inr ⟨rfl,rfl⟩⟩
  | false=>
    have hg:=IsPuzzle_evn o l
    rw [h] at hg
    exact ⟨_,hg.bind (Mth.Evn.congr (fun k=>if_neg (by simp)) (Mth.Evn.now _)),.inl rfl⟩
theorem implLoop_yes {o:Int} {l:List S51} (h:goodP o l=true):∀(d i:Nat),i+d=l.length→
    Mth.Evn (fun k=>impl_ParsePuzzle.l0 k (l.map fun x=>mkB (wl x)) (l.length:Int) i o (l.take i)) (o,l,true)
  | 0,i,hi=>by
    refine (isP_yes h).step fun k=>?_
    simp only [impl_ParsePuzzle.l0]
    rw [if_neg (by omega),List.take_of_length_le (by omega)]
  | d+1,i,hi=>by
    obtain ⟨h1,h2,h3⟩:=good_of h
    have hlt:i<l.length:=by omega
    have hx:=h3 _ (List.getElem_mem hlt)
    obtain ⟨x0,x1,x2⟩:=small_nat hx
    have ih:=implLoop_yes h d (i+1) (by omega)
    have hs:=nums_yes (t:=mkB (wl l[i])) (c:=46) (by have:=wl_size hx;omega) (by rw [mkB_list];exact wl_46 l[i]) (fun n hn=>by
      rcases List.mem_cons.1 hn with rfl|hn
      · exact x0
      rcases List.mem_cons.1 hn with rfl|hn
      · exact x1
      · rw [List.mem_singleton] at hn;subst hn;exact x2)
    have ew:wrap64 ((i:Int)+1)=((i+1:Nat):Int):=by rw [wrap_id (by omega) (by omega)];omega
    have et:l.take i++[(⟨((l[i].f0.toNat:Nat):Int),((l[i].f1.toNat:Nat):Int),((l[i].f2.toNat:Nat):Int)⟩:S51)]=l.take (i+1):=by
      rw [clue_back hx,List.take_add_one,List.getElem?_eq_getElem hlt];rfl
    refine Mth.Evn.step (fun k=>by simp only [impl_ParsePuzzle.l0,rd_map hlt];rw [if_pos (by omega),if_pos (by omega),if_pos (by simp;omega)]) ?_
    refine hs.bind ?_
    refine Mth.Evn.congr (fun k=>(if_pos rfl).trans ((if_pos (by simp)).trans ((if_pos (by simp)).trans ((if_pos (by simp)).trans ((if_pos (by simp)).trans (if_pos (by rw [List.length_take];omega))))))) ?_
    rw [ew]
    show Mth.Evn (fun k=>impl_ParsePuzzle.l0 k (l.map fun x=>mkB (wl x)) (l.length:Int) ((i+1:Nat):Int) o (l.take i++[(⟨((l[i].f0.toNat:Nat):Int),((l[i].f1.toNat:Nat):Int),((l[i].f2.toNat:Nat):Int)⟩:S51)])) (o,l,true)
    rw [et]
    exact ih
theorem implLoop_any (W:List ByteArray) (hW:W.length≤2000000) (hs:∀w,w∈W→w.size≤2000000):∀(d i:Nat) (o:Int) (acc:List S51),i+d=W.length→acc.map wl=(W.take i).map (fun b=>b.data.toList)→
    ∃r,Mth.Evn (fun k=>impl_ParsePuzzle.l0 k W (W.length:Int) i o acc) r∧(r=(0,[],false)∨∃l,goodP o l=true∧r=(o,l,true)∧l.map wl=W.map (fun b=>b.data.toList))
  | 0,i,o,acc,hi,ha=>by
    obtain ⟨r,hr,hb⟩:=isP_any o acc
    refine ⟨r,hr.step fun k=>?_,?_⟩
    · simp only [impl_ParsePuzzle.l0]
      rw [if_neg (by omega)]
    · rcases hb with hb|⟨h1,h2⟩
      · exact .inl hb
      · rw [List.take_of_length_le (by omega)] at ha
        exact .inr ⟨acc,h1,h2,ha⟩
  | d+1,i,o,acc,hi,ha=>by
    have hlt:i<W.length:=by omega
    have hal:acc.length=i:=by
      have:=congrArg List.length ha
      rw [List.length_map,List.length_map,List.length_take] at this
      omega
    have ew:wrap64 ((i:Int)+1)=((i+1:Nat):Int):=by rw [wrap_id (by omega) (by omega)];omega
    obtain ⟨xs,b,hx,hb⟩:=nums_back (t:=W[i]) (hs _ (List.getElem_mem hlt)) 46
    have h0:∀r,Mth.Evn (fun k=>if b=true then (if (xs.length:Int)=3 then (if 0<(xs.length:Int) then (if 1<(xs.length:Int) then (if 2<(xs.length:Int) then (if acc.length<5864062014805 then (impl_ParsePuzzle.l0 k W (W.length:Int) (wrap64 ((i:Int)+1)) o (acc++[(⟨rd xs 0,rd xs 1,rd xs 2⟩:S51)])) else (none)) else (none)) else (none)) else (none)) else (some (0,([]:List S51),false))) else (some (0,([]:List S51),false))) r→Mth.Evn (fun k=>impl_ParsePuzzle.l0 k W (W.length:Int) i o acc) r:=fun r hr=>by
      refine Mth.Evn.step (fun k=>by simp only [impl_ParsePuzzle.l0,rd_at hlt];rw [if_pos (by omega),if_pos (by omega),if_pos (by omega)]) ?_
      exact hx.bind hr
    cases b with
    | false=>exact ⟨_,h0 _ (Mth.Evn.congr (fun k=>if_neg (by simp)) (Mth.Evn.now _)),.inl rfl⟩
    | true=>
      by_cases hl:xs.length=3
      · obtain ⟨_,ns,e1,e2⟩:=hb rfl
        have hns:ns.length=3:=by rw [e1,List.length_map] at hl;exact hl
        match ns,hns with
        | [a,b,c],_=>
          have ex:(⟨rd xs 0,rd xs 1,rd xs 2⟩:S51)=⟨(a:Int),(b:Int),(c:Int)⟩:=by rw [e1];rfl
          have hj:=join_pieces 46 (W[i]).data.toList []
          rw [e2,List.nil_append] at hj
          obtain ⟨r,hr,hq⟩:=implLoop_any W hW hs d (i+1) o (acc++[⟨(a:Int),(b:Int),(c:Int)⟩]) (by omega) (by
            rw [List.map_append,ha,List.take_add_one,List.map_append,List.getElem?_eq_getElem hlt]
            refine congrArg (fun z=>_++z) ?_
            show [wl ⟨(a:Int),(b:Int),(c:Int)⟩]=[(W[i]).data.toList]
            rw [← hj]
            unfold wl
            rw [Int.toNat_natCast,Int.toNat_natCast,Int.toNat_natCast]
            rfl)
          refine ⟨r,h0 _ ?_,hq⟩
          refine Mth.Evn.congr (fun k=>(if_pos rfl).trans ((if_pos (by omega)).trans ((if_pos (by omega)).trans ((if_pos (by omega)).trans ((if_pos (by omega)).trans (if_pos (by omega))))))) ?_
          rw [ew,ex]
          exact hr
      · exact ⟨_,h0 _ (Mth.Evn.congr (fun k=>(if_pos rfl).trans (if_neg (by omega))) (Mth.Evn.now _)),.inl rfl⟩
theorem pi_yes {t:ByteArray} {o:Int} {l:List S51} (h:goodP o l=true) (ht:t.data.toList=P o l):Mth.Evn (fun k=>impl_ParsePuzzle.f k t) (o,l,true):=by
  have hl:=size_list t
  have hz:=P_len h
  rw [ht] at hl
  obtain ⟨h1,h2,h3⟩:=good_of h
  have htx:=txt_len l h3
  have hdo:=dec_len3 (n:=o.toNat) (by omega)
  have eo:((o.toNat:Nat):Int)=o:=by omega
  have hcut:=cut_eq (t:=t) (by omega) 58 (x:=Lib.decDigits o.toNat) (y:=txt l) (f:=true) (by rw [ht];exact cut1 (n58 _))
  have hn:=nums_yes (t:=mkB (Lib.decDigits o.toNat)) (c:=44) (ns:=[o.toNat]) (by rw [mkB_size];omega) (by rw [mkB_list,pieces_none _ (n44 _)];rfl) (fun n hn=>by rw [List.mem_singleton] at hn;omega)
  have hj:Mth.Evn (fun k=>impl_ParsePuzzle.j0 k (mkB (txt l)) [((o.toNat:Nat):Int)] false) (o,l,true):=by
    refine Mth.Evn.step (fun k=>by simp only [impl_ParsePuzzle.j0];rw [if_neg (by simp),if_pos (by simp)]) ?_
    rw [show rd [((o.toNat:Nat):Int)] 0=((o.toNat:Nat):Int) from rfl,eo]
    by_cases hc:l=[]
    · subst hc
      exact Mth.Evn.congr (fun k=>if_pos (by rw [dtl];rfl)) (isP_yes h)
    · refine Mth.Evn.congr (fun k=>if_neg (by rw [dtl];exact txt_ne hc)) ?_
      have hsp:=split_eq (t:=mkB (txt l)) (by rw [mkB_size];omega) 44
      rw [mkB_list,txt_44 hc,mkB_map] at hsp
      refine pre hsp ?_
      have hlp:=implLoop_yes h l.length 0 (by omega)
      rw [List.take_zero] at hlp
      rw [List.length_map]
      exact hlp
  unfold impl_ParsePuzzle.f
  refine pre hcut ?_
  refine hn.bind ?_
  exact Mth.Evn.congr (fun k=>(if_pos rfl).trans (if_pos rfl)) hj
theorem pi_any {t:ByteArray} (hz:t.size≤2000000):∃r,Mth.Evn (fun k=>impl_ParsePuzzle.f k t) r∧(r=(0,[],false)∨(goodP r.1 r.2.1=true∧t.data.toList=P r.1 r.2.1)):=by
  have jt:∀t L,Mth.Evn (fun k=>impl_ParsePuzzle.j0 k t L true) (0,[],false):=fun t L=>(Mth.Evn.now _).step fun k=>by simp only [impl_ParsePuzzle.j0];rw [if_pos trivial]
  have hsz:=size_list t
  rcases parts 58 t.data.toList with hp|⟨x,y,hp,hx⟩
  · have hcut:=cut_eq hz 58 (cut0 hp)
    obtain ⟨xs,b,hn,_⟩:=nums_back (t:=mkB t.data.toList) (by rw [mkB_size];omega) 44
    refine ⟨(0,[],false),?_,.inl rfl⟩
    unfold impl_ParsePuzzle.f
    refine pre hcut ?_
    refine hn.bind ?_
    exact Mth.Evn.congr (fun k=>if_neg (by simp)) (jt _ _)
  · have hcut:=cut_eq hz 58 (x:=x) (y:=y) (f:=true) (by rw [hp];exact cut1 hx)
    have hlen:x.length≤2000000∧y.length+1≤2000000:=by
      rw [hp] at hsz
      simp at hsz;omega
    obtain ⟨xs,b,hn,hb⟩:=nums_back (t:=mkB x) (by rw [mkB_size];omega) 44
    unfold impl_ParsePuzzle.f
    cases b with
    | false=>exact ⟨_,pre hcut (hn.bind (Mth.Evn.congr (fun k=>(if_pos rfl).trans (if_neg (by simp))) (jt _ _))),.inl rfl⟩
    | true=>
      obtain ⟨hx1,ns,e1,e2⟩:=hb rfl
      have h0:∀r,Mth.Evn (fun k=>impl_ParsePuzzle.j0 k (mkB y) xs ((xs.length:Int) != 1)) r→Mth.Evn (fun k=>(strings_Cut.f t (⟨#[58]⟩:ByteArray)).bind fun bt191=>((impl_readNumbers.f k bt191.1 (⟨#[44]⟩:ByteArray)).bind fun bt194=>(if bt191.2.2=true then (if bt194.2=true then (impl_ParsePuzzle.j0 k bt191.2.1 bt194.1 ((bt194.1.length:Int) != 1)) else (impl_ParsePuzzle.j0 k bt191.2.1 bt194.1 true)) else (impl_ParsePuzzle.j0 k bt191.2.1 bt194.1 true)))) r:=fun r hr=>
        pre hcut (hn.bind (Mth.Evn.congr (fun k=>(if_pos rfl).trans (if_pos rfl)) hr))
      by_cases hl:xs.length=1
      · have hne:((xs.length:Int) != 1)=false:=by rw [hl];rfl
        have hns:ns.length=1:=by rw [e1,List.length_map] at hl;exact hl
        obtain ⟨o,rfl⟩:=List.length_eq_one_iff.1 hns
        have hxo:=pieces_one e2
        rw [mkB_list] at hxo
        have ero:rd xs 0=(o:Int):=by rw [e1];rfl
        by_cases hy:y=[]
        · obtain ⟨r,hr,hq⟩:=isP_any (o:Int) []
          refine ⟨r,h0 r ?_,?_⟩
          · rw [hne]
            refine Mth.Evn.step (fun k=>by simp only [impl_ParsePuzzle.j0,ero];rw [if_neg (by simp),if_pos (by omega),if_pos (by rw [dtl];exact hy)]) ?_
            exact hr
          · rcases hq with hq|⟨q1,q2⟩
            · exact .inl hq
            · rw [q2]
              refine .inr ⟨q1,?_⟩
              show t.data.toList=P (o:Int) []
              rw [hp,hxo,hy]
              unfold P
              rw [Int.toNat_natCast];rfl
        · have hsp:=split_eq (t:=mkB y) (by rw [mkB_size];omega) 44
          rw [mkB_list] at hsp
          have hw:=pieces_len (c:=44) y []
          obtain ⟨r,hr,hq⟩:=implLoop_any ((pieces 44 [] y).map mkB) (by rw [List.length_map];omega) (fun w hw=>by
            obtain ⟨v,hv,rfl⟩:=List.mem_map.1 hw
            have:=pieces_piece _ _ _ hv
            rw [mkB_size]
            simp at this;omega) ((pieces 44 [] y).map mkB).length 0 (o:Int) [] (by omega) rfl
          refine ⟨r,h0 r ?_,?_⟩
          · rw [hne]
            refine Mth.Evn.step (fun k=>by simp only [impl_ParsePuzzle.j0,ero];rw [if_neg (by simp),if_pos (by omega),if_neg (by rw [dtl];exact hy)]) ?_
            exact pre hsp hr
          · rcases hq with hq|⟨l,q1,q2,q3⟩
            · exact .inl hq
            · rw [q2]
              refine .inr ⟨q1,?_⟩
              show t.data.toList=P (o:Int) l
              have hj:=join_pieces 44 y []
              rw [List.map_map,show ((fun b:ByteArray=>b.data.toList) ∘ mkB)=id from rfl,List.map_id] at q3
              rw [← q3,← txt_join,List.nil_append] at hj
              rw [hp,hxo,← hj]
              unfold P
              rw [Int.toNat_natCast]
      · refine ⟨(0,[],false),h0 _ ?_,.inl rfl⟩
        rw [show ((xs.length:Int) != 1)=true from bne_iff_ne.2 (by omega)]
        exact jt _ _
def kindFor (w d kd:Int):Int:=if kd=3∧(w=0∨d=0) then 0 else if kd=4∧d=0 then 1 else kd
def makeC (w d o kd:Int):S51:=⟨kindFor w d kd,(clueVal w d o (kindFor w d kd)).1,(clueVal w d o (kindFor w d kd)).2.1⟩
def nextZ (z:Int):Int:=(239*z+1777) % 10007
def made (w d o:Int):Nat→Int→List S51→List S51
  | 0,_,xs=>xs
  | n+1,z,xs=>made w d o n (nextZ z) (xs++[makeC w d o (nextZ z % 6)])
theorem made_len (w d o:Int):∀(n:Nat) (z:Int) (xs:List S51),(made w d o n z xs).length=xs.length+n
  | 0,_,_=>rfl
  | n+1,z,xs=>by rw [made,made_len w d o n];simp;omega
theorem nextZ_bd (z:Int):0≤nextZ z∧nextZ z≤10006:=by unfold nextZ;omega
theorem pzNext_eq (z:Int) (h:0≤z) (h':z≤10006):spec_pzNext.f z=some (nextZ z):=by
  unfold spec_pzNext.f nextZ
  rw [wrap_id (x:=239*z) (by omega) (by omega),wrap_id (x:=239*z+1777) (by omega) (by omega),Int.tmod_eq_emod_of_nonneg (by omega)]
section
variable {w d o:Int} (ho:1≤o) (ho':o≤8) (hw:0≤w) (hw':w≤o) (hd:0≤d) (hd':d≤o)
include ho ho' hw hw' hd hd'
theorem pzMake_ev (kd:Int):Mth.Evn (fun k=>spec_pzMake.f k kd w d o) ((makeC w d o kd).f0,(makeC w d o kd).f1,(makeC w d o kd).f2):=by
  have key:∀kd',kindFor w d kd=kd'→Mth.Evn (fun k=>(spec_pzValue.f k kd' w d o).bind fun b=>some (kd',b.1,b.2.1)) ((makeC w d o kd).f0,(makeC w d o kd).f1,(makeC w d o kd).f2):=by
    intro kd' e
    refine (pzValue_ev ho ho' hw hw' hd hd' kd').bind ?_
    unfold makeC;rw [e];exact Mth.Evn.now _
  unfold spec_pzMake.f
  by_cases k3:kd=3
  · refine Mth.Evn.congr (fun k=>if_pos k3) ?_
    by_cases w0:w=0
    · refine Mth.Evn.congr (fun k=>if_pos w0) ?_
      refine (key 0 (by unfold kindFor;rw [if_pos ⟨k3,.inl w0⟩])).step fun k=>?_
      simp only [spec_pzMake.j0];rfl
    · refine Mth.Evn.congr (fun k=>if_neg w0) ?_
      by_cases d0:d=0
      · refine (key 0 (by unfold kindFor;rw [if_pos ⟨k3,.inr d0⟩])).step fun k=>?_
        simp only [spec_pzMake.j0];rw [if_pos (by simpa using d0)]
      · refine (key kd (by unfold kindFor;rw [if_neg (by omega),if_neg (by omega)])).step fun k=>?_
        simp only [spec_pzMake.j0];rw [if_neg (by simpa using d0),if_neg (by omega)]
  · refine Mth.Evn.congr (fun k=>if_neg k3) ?_
    by_cases k4:kd=4
    · by_cases d0:d=0
      · refine (key 1 (by unfold kindFor;rw [if_neg (by omega),if_pos ⟨k4,d0⟩])).step fun k=>?_
        simp only [spec_pzMake.j0];rw [if_neg (by simp),if_pos k4,if_pos d0]
      · refine (key kd (by unfold kindFor;rw [if_neg (by omega),if_neg (by omega)])).step fun k=>?_
        simp only [spec_pzMake.j0];rw [if_neg (by simp),if_pos k4,if_neg d0]
    · refine (key kd (by unfold kindFor;rw [if_neg (by omega),if_neg (by omega)])).step fun k=>?_
      simp only [spec_pzMake.j0];rw [if_neg (by simp),if_neg k4]
theorem spec_make:∀(n:Nat) (z:Int) (xs:List S51),0≤z→z≤10006→xs.length+n≤6→
    Mth.Evn (fun k=>spec_MakePuzzle.l0 k n z w d o o xs) (o,made w d o n z xs,true)
  | 0,z,xs,h0,h1,hl=>by
    refine (Mth.Evn.now _).step fun k=>?_
    simp only [spec_MakePuzzle.l0];rw [if_neg (by omega)];rfl
  | n+1,z,xs,h0,h1,hl=>by
    have b:=nextZ_bd z
    have ih:=spec_make n (nextZ z) (xs++[makeC w d o (nextZ z % 6)]) b.1 b.2 (by simp;omega)
    have ew:wrap64 (((n+1:Nat):Int) - 1)=(n:Int):=by rw [wrap_id (by omega) (by omega)];omega
    refine Mth.Evn.step (g:=fun k=>(spec_pzMake.f k (nextZ z % 6) w d o).bind fun bt=>if xs.length<5864062014805 then spec_MakePuzzle.l0 k n (nextZ z) w d o o (xs++[(⟨bt.1,bt.2.1,bt.2.2⟩:S51)]) else none) (fun k=>by simp only [spec_MakePuzzle.l0];rw [if_pos (by omega),pzNext_eq z h0 h1,ew];simp only [Option.bind_some];rw [Int.tmod_eq_emod_of_nonneg b.1]) ?_
    refine (pzMake_ev ho ho' hw hw' hd hd' (nextZ z % 6)).bind ?_
    refine Mth.Evn.congr (fun k=>?_) ih
    rw [if_pos (by omega)]
end
def bytes8 (c:List Int):Prop:=∀x∈c,0≤x∧x≤255
theorem rd_byte {c:List Int} (hc:bytes8 c) (i:Int):0≤rd c i∧rd c i≤255:=by
  unfold rd
  rw [List.getD_eq_getElem?_getD]
  cases h:c[i.toNat]? with
  | none=>exact ⟨Int.le_refl _,by decide⟩
  | some x=>exact hc x (List.mem_of_getElem? h)
theorem u64_in (n:Int) (h₀:0≤n) (h₁:n<2 ^ 64):IntKind.u64.wrap n=n:=by rw [IntKind.wrap_u64];omega
theorem and_byte {x:Int} (h0:0≤x) (h1:x<18446744073709551616):0≤Go.bits .and .u64 x 255∧Go.bits .and .u64 x 255≤255:=by
  have h:=Go.bits_mask .u64 64 (by decide) u64_in 8 (by decide) x h0 (by omega)
  have e:Go.bits .and .u64 x 255=x % 256:=by simpa using h
  omega
theorem next_ev {c:List Int} (hc:bytes8 c) {a:Int} (h0:0≤a) (h1:a≤1000000) (s:Int):∃n s':Int,spec_l1Cur_next.f c a s=some (n,a+1,s')∧0≤n∧n≤255:=by
  have ew:wrap64 (a+1)=a+1:=wrap_id (by omega) (by omega)
  have hb:=rd_byte hc a
  have eb:wrap64 (rd c a)=rd c a:=wrap_id (by omega) (by omega)
  unfold spec_l1Cur_next.f
  rw [ew]
  by_cases c1:a<(c.length:Int)
  · rw [if_pos c1,if_pos h0,if_pos (by omega),eb]
    exact ⟨_,_,rfl,hb.1,hb.2⟩
  · rw [if_neg c1,if_neg (by omega)]
    refine ⟨_,_,rfl,?_⟩
    have hq:0≤(IntKind.u64.wrap ((IntKind.u64.wrap (IntKind.u64.wrap (s*6364136223846793005)))+1442695040888963407)) / 1099511627776∧(IntKind.u64.wrap ((IntKind.u64.wrap (IntKind.u64.wrap (s*6364136223846793005)))+1442695040888963407)) / 1099511627776<18446744073709551616:=by
      generalize (IntKind.u64.wrap (IntKind.u64.wrap (s*6364136223846793005)))+1442695040888963407=y
      rw [IntKind.wrap_u64]
      omega
    have h:=and_byte hq.1 hq.2
    rw [wrap_id (by omega) (by omega)]
    exact h
theorem pick_ev {c:List Int} (hc:bytes8 c) {a:Int} (h0:0≤a) (h1:a≤999999) (s n:Int) (hn:n≤1000000):∃r a' s':Int,spec_l1Cur_pick.f c a s n=some (r,a',s')∧(a≤a'∧a'≤a+2)∧0≤r∧r≤1000000∧(1≤n→r<n):=by
  unfold spec_l1Cur_pick.f
  by_cases c1:n≤1
  · rw [if_pos c1]
    exact ⟨0,a,s,rfl,by omega,by omega,by omega,fun h=>by omega⟩
  · rw [if_neg c1]
    obtain ⟨x,s1,e1,x0,x1⟩:=next_ev hc h0 (by omega) s
    rw [e1]
    simp only [Option.bind_some]
    have tm:∀z:Int,0≤z→0≤Int.tmod z n∧Int.tmod z n<n:=fun z hz=>by
      rw [Int.tmod_eq_emod_of_nonneg hz]
      exact ⟨Int.emod_nonneg _ (by omega),Int.emod_lt_of_pos _ (by omega)⟩
    by_cases c2:n>200
    · rw [if_pos c2]
      obtain ⟨y,s2,e2,y0,y1⟩:=next_ev hc (a:=a+1) (by omega) (by omega) s1
      rw [e2]
      simp only [Option.bind_some]
      rw [if_neg (by omega),wrap_id (x:=x*256) (by omega) (by omega),wrap_id (x:=x*256+y) (by omega) (by omega)]
      have:=tm (x*256+y) (by omega)
      exact ⟨_,_,_,rfl,by omega,this.1,by omega,fun _=>this.2⟩
    · rw [if_neg c2,if_neg (by omega)]
      have:=tm x x0
      exact ⟨_,_,_,rfl,by omega,this.1,by omega,fun _=>this.2⟩
theorem among_ev {c:List Int} (hc:bytes8 c) {a:Int} (h0:0≤a) (h1:a≤999999) (s:Int) (l:List Int) (hl:1≤l.length) (hl2:l.length≤1000):∃r a' s':Int,spec_l1Cur_among.f c a s l=some (r,a',s')∧(a≤a'∧a'≤a+2):=by
  unfold spec_l1Cur_among.f
  obtain ⟨r,a',s',e,ha,r0,_,r1⟩:=pick_ev hc h0 h1 s (l.length:Int) (by omega)
  rw [e]
  simp only [Option.bind_some]
  have:=r1 (by omega)
  rw [if_pos r0,if_pos this]
  exact ⟨_,_,_,rfl,ha⟩
theorem one_ev {c:List Int} (hc:bytes8 c) {a:Int} (h0:0≤a) (h1:a≤999999) (s n:Int) (hn:n≤1000):∃(r:Bool) (a' s':Int),spec_l1Cur_one.f c a s n=some (r,a',s')∧(a≤a'∧a'≤a+2):=by
  unfold spec_l1Cur_one.f
  obtain ⟨r,a',s',e,ha,_⟩:=pick_ev hc h0 h1 s n (by omega)
  rw [e]
  exact ⟨_,_,_,rfl,ha⟩
theorem hidden_ev {c:List Int} (hc:bytes8 c) {a:Int} (h0:0≤a) (h1:a≤999900) (s:Int):∃w d o a' s':Int,spec_l1Cur_hiddenChain.f c a s=some (w,d,o,a',s')∧(a≤a'∧a'≤a+6)∧(1≤o∧o≤8)∧(0≤w∧w≤o)∧(0≤d∧d≤o):=by
  unfold spec_l1Cur_hiddenChain.f
  obtain ⟨p,a1,s1,e1,b1,p0,_,p1⟩:=pick_ev hc h0 (by omega) s 8 (by omega)
  have:=p1 (by omega)
  rw [e1]
  simp only [Option.bind_some]
  rw [wrap_id (x:=1+p) (by omega) (by omega),wrap_id (x:=1+p+1) (by omega) (by omega)]
  obtain ⟨q,a2,s2,e2,b2,q0,_,q1⟩:=pick_ev hc (a:=a1) (by omega) (by omega) s1 (1+p+1) (by omega)
  have:=q1 (by omega)
  rw [e2]
  simp only [Option.bind_some]
  obtain ⟨r,a3,s3,e3,b3,r0,_,r1⟩:=pick_ev hc (a:=a2) (by omega) (by omega) s2 (1+p+1) (by omega)
  have:=r1 (by omega)
  rw [e3]
  exact ⟨q,r,1+p,a3,s3,rfl,by omega,by omega,by omega,by omega⟩
theorem clueVal_small {w d o:Int} (ho:1≤o) (ho':o≤8) (hw:0≤w) (hw':w≤o) (hd:0≤d) (hd':d≤o) (kd:Int):(0≤(clueVal w d o kd).1∧(clueVal w d o kd).1≤100)∧(0≤(clueVal w d o kd).2.1∧(clueVal w d o kd).2.1≤100):=by
  obtain ⟨⟨p1,p2⟩,p3,p4⟩:=prods ho ho' hw hw' hd hd'
  have q1:(o - w)*(o - w)≤(o - w)*8:=Int.mul_le_mul_of_nonneg_left (by omega) (by omega)
  have q2:w*d≤w*8:=Int.mul_le_mul_of_nonneg_left (by omega) hw
  unfold clueVal
  by_cases k0:kd=0
  · rw [if_pos k0]
    refine ⟨by dsimp only;omega,?_⟩
    dsimp only
    split <;> omega
  rw [if_neg k0]
  by_cases k1:kd=1
  · rw [if_pos k1];dsimp only;omega
  rw [if_neg k1]
  by_cases k2:kd=2
  · rw [if_pos k2];dsimp only;omega
  rw [if_neg k2]
  by_cases k3:kd=3
  · rw [if_pos k3]
    by_cases z:w=0∨d=0
    · rw [if_pos z];dsimp only;omega
    · rw [if_neg z]
      have:=low_bd (n:=d) (d:=w+d) hd (by omega)
      dsimp only;omega
  rw [if_neg k3]
  by_cases k4:kd=4
  · rw [if_pos k4]
    by_cases z:d=0
    · rw [if_pos z];dsimp only;omega
    · rw [if_neg z]
      have:=low_bd (n:=o) (d:=d) (by omega) (by omega)
      dsimp only;omega
  rw [if_neg k4]
  dsimp only;omega
theorem made_small {w d o:Int} (ho:1≤o) (ho':o≤8) (hw:0≤w) (hw':w≤o) (hd:0≤d) (hd':d≤o):∀(n:Nat) (z:Int) (xs:List S51),(∀x,x∈xs→small x)→∀x,x∈made w d o n z xs→small x
  | 0,z,xs,h,x,hx=>h x hx
  | n+1,z,xs,h,x,hx=>by
    rw [made] at hx
    refine made_small ho ho' hw hw' hd hd' n _ _ (fun y hy=>?_) x hx
    rcases List.mem_append.1 hy with hy|hy
    · exact h y hy
    · rw [List.mem_singleton] at hy
      subst hy
      have b:=nextZ_bd z
      have hk:0≤kindFor w d (nextZ z % 6)∧kindFor w d (nextZ z % 6)≤100:=by
        unfold kindFor
        split
        · omega
        · split <;> omega
      have hv:=clueVal_small ho ho' hw hw' hd hd' (kindFor w d (nextZ z % 6))
      exact ⟨hk,hv.1,hv.2⟩
theorem sure_puzzle_ev {c:List Int} (hc:bytes8 c) {a:Int} (h0:0≤a) (h1:a≤999000) (s m:Int) (hm:0≤m) (hm':m≤5):∃(o:Int) (l:List S51) (a' s':Int),Mth.Evn (fun k=>spec_l1Cur_surePuzzle.f k c a s m) (o,l,a',s')∧(a≤a'∧a'≤a+20)∧(0≤o∧o≤100)∧l.length≤6∧∀x,x∈l→small x:=by
  obtain ⟨w,d,o,a1,s1,e1,b1,ho,hw,hd⟩:=hidden_ev hc h0 (by omega) s
  obtain ⟨n,a2,s2,e2,b2,n0,_,n1⟩:=pick_ev hc (a:=a1) (by omega) (by omega) s1 (m+1) (by omega)
  have hn:=n1 (by omega)
  obtain ⟨z,a3,s3,e3,b3,z0,_,z1⟩:=pick_ev hc (a:=a2) (by omega) (by omega) s2 10000 (by omega)
  have hz:=z1 (by omega)
  have hp:spec_pzHidden.f w d o=some true:=by
    unfold spec_pzHidden.f spec_pzOf.f
    rw [cnGood_eq,l1In_eq]
    simp only [Option.bind_some]
    rw [if_pos (decide_eq_true (by omega)),decide_eq_true (by omega)]
  have hmk:=spec_make ho.1 ho.2 hw.1 hw.2 hd.1 hd.2 n.toNat z [] z0 (by omega) (by simp;omega)
  rw [show ((n.toNat:Nat):Int)=n by omega] at hmk
  have hf:Mth.Evn (fun k=>spec_MakePuzzle.f k w d o n z) (o,made w d o n.toNat z [],true):=by
    refine Mth.Evn.congr (g:=fun k=>spec_MakePuzzle.j0 k n z false w d o) (fun k=>?_) (hmk.step fun k=>?_)
    · unfold spec_MakePuzzle.f
      rw [hp,l1In_eq,l1In_eq,decide_eq_true (show 0≤n∧n≤6 by omega),decide_eq_true (show 0≤z∧z≤9999 by omega)];rfl
    · simp only [spec_MakePuzzle.j0];rw [if_neg (by simp)]
  refine ⟨o,made w d o n.toNat z [],a3,s3,?_,by omega,by omega,by rw [made_len];simp;omega,made_small ho.1 ho.2 hw.1 hw.2 hd.1 hd.2 _ _ _ (fun x hx=>by cases hx)⟩
  unfold spec_l1Cur_surePuzzle.f
  rw [e1,wrap_id (x:=m+1) (by omega) (by omega)]
  simp only [Option.bind_some]
  rw [e2]
  simp only [Option.bind_some]
  rw [e3]
  simp only [Option.bind_some]
  exact hf.bind (Mth.Evn.now _)
theorem clue_draw {c:List Int} (hc:bytes8 c) {a:Int} (h0:0≤a) (h1:a≤999000) (s:Int):∃x y z a' s':Int,Mth.Evn (fun k=>spec_l1Cur_clue.f k c a s) (x,y,z,a',s')∧(a≤a'∧a'≤a+40):=by
  obtain ⟨p1,a1,s1,e1,b1,_⟩:=pick_ev hc h0 (by omega) s 6 (by omega)
  obtain ⟨p2,a2,s2,e2,b2,_⟩:=pick_ev hc (a:=a1) (by omega) (by omega) s1 9 (by omega)
  obtain ⟨p3,a3,s3,e3,b3,_⟩:=pick_ev hc (a:=a2) (by omega) (by omega) s2 9 (by omega)
  obtain ⟨p4,a4,s4,e4,b4,_⟩:=pick_ev hc (a:=a3) (by omega) (by omega) s3 9 (by omega)
  have hj:∀(b:Bool) (a5 s5 u v t:Int),a4≤a5→a5≤a4+10→∃x y z a' s':Int,Mth.Evn (fun k=>spec_l1Cur_clue.j0 k b c a5 s5 u v t) (x,y,z,a',s')∧(a≤a'∧a'≤a+40):=by
    intro b a5 s5 u v t g1 g2
    cases b with
    | false=>exact ⟨u,v,t,a5,s5,(Mth.Evn.now _).step fun k=>by simp only [spec_l1Cur_clue.j0];rw [if_neg (by simp)],by omega⟩
    | true=>
      obtain ⟨p6,a6,s6,e6,b6,_⟩:=pick_ev hc (a:=a5) (by omega) (by omega) s5 5 (by omega)
      obtain ⟨p7,a7,s7,e7,b7,_⟩:=pick_ev hc (a:=a6) (by omega) (by omega) s6 4 (by omega)
      obtain ⟨p8,a8,s8,e8,b8,_⟩:=pick_ev hc (a:=a7) (by omega) (by omega) s7 9 (by omega)
      refine ⟨u,p6,wrap64 ((wrap64 (1+p7)) - (wrap64 (Int.tdiv p8 8))),a8,s8,(Mth.Evn.now _).step fun k=>?_,by omega⟩
      simp only [spec_l1Cur_clue.j0]
      rw [if_pos trivial,e6]
      simp only [Option.bind_some]
      rw [e7]
      simp only [Option.bind_some]
      rw [e8]
      rfl
  unfold spec_l1Cur_clue.f
  rw [e1]
  simp only [Option.bind_some]
  rw [e2]
  simp only [Option.bind_some]
  rw [e3]
  simp only [Option.bind_some]
  rw [e4]
  simp only [Option.bind_some]
  by_cases c3:wrap64 (p1+wrap64 (Int.tdiv p2 8))=3
  · simp only [if_pos c3]
    exact hj true a4 s4 _ _ _ (by omega) (by omega)
  · simp only [if_neg c3]
    by_cases c4:wrap64 (p1+wrap64 (Int.tdiv p2 8))=4
    · simp only [if_pos c4]
      exact hj true a4 s4 _ _ _ (by omega) (by omega)
    · simp only [if_neg c4]
      obtain ⟨b,a5,s5,e5,b5⟩:=one_ev hc (a:=a4) (by omega) (by omega) s4 10 (by omega)
      rw [e5]
      simp only [Option.bind_some]
      exact hj b a5 s5 _ _ _ (by omega) (by omega)
theorem more_ev {c:List Int} (hc:bytes8 c) (o:Int):∀(n:Nat) (a s:Int) (l:List S51),0≤a→a+2*(n+1)≤999900→8≤l.length+n→l.length≤8→∃(l':List S51) (a' s':Int),Mth.Evn (fun k=>spec_l1Cur_puzzle.l0 k c a s o l) (o,l',a',s')∧l'.length≤9:=by
  intro n
  induction n with
  | zero=>
    intro a s l h0 h1 h2 h3
    obtain ⟨p,a1,s1,e1,b1,p0,_,p1⟩:=pick_ev hc h0 (by omega) s 2 (by omega)
    have:=p1 (by omega)
    refine ⟨l,a1,s1,(Mth.Evn.now _).step fun k=>?_,by omega⟩
    simp only [spec_l1Cur_puzzle.l0]
    rw [e1]
    simp only [Option.bind_some]
    rw [wrap_id (x:=6+p) (by omega) (by omega),if_neg (by omega)]
  | succ n ih=>
    intro a s l h0 h1 h2 h3
    obtain ⟨p,a1,s1,e1,b1,p0,_,p1⟩:=pick_ev hc h0 (by omega) s 2 (by omega)
    have:=p1 (by omega)
    by_cases c1:(l.length:Int)<6+p
    · obtain ⟨l',a',s',hr,hl⟩:=ih a1 s1 (l++[⟨1,0,3⟩]) (by omega) (by omega) (by simp;omega) (by simp;omega)
      refine ⟨l',a',s',hr.step fun k=>?_,hl⟩
      simp only [spec_l1Cur_puzzle.l0]
      rw [e1]
      simp only [Option.bind_some]
      rw [wrap_id (x:=6+p) (by omega) (by omega),if_pos c1,if_pos (by omega)]
    · refine ⟨l,a1,s1,(Mth.Evn.now _).step fun k=>?_,by omega⟩
      simp only [spec_l1Cur_puzzle.l0]
      rw [e1]
      simp only [Option.bind_some]
      rw [wrap_id (x:=6+p) (by omega) (by omega),if_neg c1]
theorem draw_puzzle {c:List Int} (hc:bytes8 c):∃(o:Int) (l:List S51),Mth.Evn (fun k=>spec_DrawSolutions.f k c) (o,l)∧l.length≤1000:=by
  have main:∃(o:Int) (l:List S51) (a s:Int),Mth.Evn (fun k=>spec_l1Cur_puzzle.f k c 0 0) (o,l,a,s)∧l.length≤1000:=by
    obtain ⟨o,l,a1,s1,e1,b1,ho,hl,_⟩:=sure_puzzle_ev hc (a:=0) (by omega) (by omega) 0 5 (by omega) (by omega)
    obtain ⟨p,a2,s2,e2,b2,_⟩:=pick_ev hc (a:=a1) (by omega) (by omega) s1 12 (by omega)
    have h0:∀r,Mth.Evn (fun k=>if p=0 then ((spec_l1Cur_among.f c a2 s2 (([(-1),0,1,8,9,4611686018427387904]:List Int))).bind fun bt223=>(some (bt223.1,l,bt223.2.1,bt223.2.2))) else (if p=1 then ((spec_l1Cur_clue.f k c a2 s2).bind fun bt226=>(if l.length<5864062014805 then (some (o,(l++[(⟨bt226.1,bt226.2.1,bt226.2.2.1⟩:S51)]),bt226.2.2.2.1,bt226.2.2.2.2)) else (none))) else (if p=2 then (spec_l1Cur_puzzle.l0 k c a2 s2 o l) else (some (o,l,a2,s2))))) r→Mth.Evn (fun k=>spec_l1Cur_puzzle.f k c 0 0) r:=fun r hr=>by
      unfold spec_l1Cur_puzzle.f
      refine e1.bind ?_
      refine Mth.Evn.congr (fun k=>?_) hr
      dsimp only
      rw [e2]
      rfl
    by_cases c0:p=0
    · obtain ⟨q,a3,s3,e3,b3⟩:=among_ev hc (a:=a2) (by omega) (by omega) s2 [(-1),0,1,8,9,4611686018427387904] (by simp) (by simp)
      exact ⟨q,l,a3,s3,h0 _ (Mth.Evn.congr (fun k=>(if_pos c0).trans (by rw [e3];rfl)) (Mth.Evn.now _)),by omega⟩
    · by_cases c1:p=1
      · obtain ⟨x,y,z,a3,s3,e3,b3⟩:=clue_draw hc (a:=a2) (by omega) (by omega) s2
        refine ⟨o,l++[⟨x,y,z⟩],a3,s3,h0 _ (Mth.Evn.congr (fun k=>(if_neg c0).trans (if_pos c1)) (e3.bind ?_)),by simp;omega⟩
        exact Mth.Evn.congr (fun k=>if_pos (by omega)) (Mth.Evn.now _)
      · by_cases c2:p=2
        · obtain ⟨l',a3,s3,e3,b3⟩:=more_ev hc o 8 a2 s2 l (by omega) (by omega) (by omega) (by omega)
          exact ⟨o,l',a3,s3,h0 _ (Mth.Evn.congr (fun k=>(if_neg c0).trans ((if_neg c1).trans (if_pos c2))) e3),by omega⟩
        · exact ⟨o,l,a2,s2,h0 _ (Mth.Evn.congr (fun k=>(if_neg c0).trans ((if_neg c1).trans (if_neg c2))) (Mth.Evn.now _)),by omega⟩
  obtain ⟨o,l,a,s,h,hl⟩:=main
  refine ⟨o,l,?_,hl⟩
  have h1:Mth.Evn (fun k=>spec_DrawIsPuzzle.f k c) (o,l):=by
    unfold spec_DrawIsPuzzle.f
    exact h.bind (Mth.Evn.now _)
  unfold spec_DrawSolutions.f
  exact h1.bind (Mth.Evn.now _)
theorem ext_size (t:ByteArray) (i j:Nat):(t.extract i j).size≤j - i∧(t.extract i j).size≤t.size:=by
  rw [ByteArray.size_extract];omega
theorem str_one (x:Int):(strOfNums [x]).size=1:=rfl
theorem spoilt_ev {c:List Int} (hc:bytes8 c) (w:ByteArray) (hw:w.size=10):∀(n:Nat) (t:ByteArray) (a s:Int),t.size+n≤1000→0≤a→a+10*n≤999000→∃(t':ByteArray) (a' s':Int),Mth.Evn (fun k=>spec_l1Cur_spoilt.l0 k t w (n:Int) c a s) (t',a',s')∧t'.size≤1000
  | 0,t,a,s,ht,h0,h1=>by
    refine ⟨t,a,s,?_,by omega⟩
    refine Mth.Evn.step (g:=fun k=>spec_l1Cur_spoilt.j1 k t w ((0:Nat):Int) false c a s) (fun k=>by simp only [spec_l1Cur_spoilt.l0];rw [if_neg (by omega)]) ?_
    exact (Mth.Evn.now _).step fun k=>by simp only [spec_l1Cur_spoilt.j1];rw [if_neg (by simp)]
  | n+1,t,a,s,ht,h0,h1=>by
    have ew:wrap64 (((n+1:Nat):Int) - 1)=(n:Int):=by rw [wrap_id (by omega) (by omega)];omega
    by_cases hz:(t.size:Int)>0
    · obtain ⟨i,a1,s1,e1,b1,i0,_,i1⟩:=pick_ev hc h0 (by omega) s (t.size:Int) (by omega)
      have hi:=i1 (by omega)
      obtain ⟨j,a2,s2,e2,b2,j0,_,j1⟩:=pick_ev hc (a:=a1) (by omega) (by omega) s1 (w.size:Int) (by omega)
      have hj:=j1 (by omega)
      obtain ⟨q,a3,s3,e3,b3,q0,_,q1⟩:=pick_ev hc (a:=a2) (by omega) (by omega) s2 3 (by omega)
      have wi:wrap64 (i+1)=i+1:=wrap_id (by omega) (by omega)
      have x1:=ext_size t 0 i.toNat
      have x2:=ext_size t i.toNat t.size
      have x3:=ext_size t (i+1).toNat t.size
      have x4:=str_one (bt w j)
      have go:∀t2:ByteArray,t2.size≤t.size+1→(∀k,spec_l1Cur_spoilt.j1 (k+1) t w ((n+1:Nat):Int) true c a s=spec_l1Cur_spoilt.l0 k t2 w (n:Int) c a3 s3)→∃(t':ByteArray) (a' s':Int),Mth.Evn (fun k=>spec_l1Cur_spoilt.l0 k t w ((n+1:Nat):Int) c a s) (t',a',s')∧t'.size≤1000:=by
        intro t2 h2 he
        obtain ⟨t',a',s',hr,hl⟩:=spoilt_ev hc w hw n t2 a3 s3 (by omega) (by omega) (by omega)
        refine ⟨t',a',s',?_,hl⟩
        refine Mth.Evn.step (g:=fun k=>spec_l1Cur_spoilt.j1 k t w ((n+1:Nat):Int) true c a s) (fun k=>by simp only [spec_l1Cur_spoilt.l0];rw [if_pos (by omega),decide_eq_true hz]) ?_
        exact hr.step he
      by_cases c0:q=0
      · refine go (((t.extract 0 i.toNat)++(strOfNums [bt w j]))++(t.extract i.toNat t.size)) (by rw [ByteArray.size_append,ByteArray.size_append];omega) (fun k=>?_)
        simp only [spec_l1Cur_spoilt.j1]
        rw [if_pos trivial,e1]
        simp only [Option.bind_some]
        rw [e2]
        simp only [Option.bind_some]
        rw [if_pos j0,if_pos hj,e3]
        simp only [Option.bind_some]
        rw [if_pos c0,if_pos i0,if_pos (by omega),if_pos (by omega),if_pos (by rw [ByteArray.size_append];omega),ew]
      · by_cases c1:q=1
        · refine go (((t.extract 0 i.toNat)++(strOfNums [bt w j]))++(t.extract (i+1).toNat t.size)) (by rw [ByteArray.size_append,ByteArray.size_append];omega) (fun k=>?_)
          simp only [spec_l1Cur_spoilt.j1]
          rw [if_pos trivial,e1]
          simp only [Option.bind_some]
          rw [e2]
          simp only [Option.bind_some]
          rw [if_pos j0,if_pos hj,e3]
          simp only [Option.bind_some]
          rw [if_neg c0,if_pos c1,if_pos i0,if_pos (by omega),if_pos (by omega),wi,if_pos (by omega),if_pos (by omega),if_pos (by rw [ByteArray.size_append];omega),ew]
        · refine go ((t.extract 0 i.toNat)++(t.extract (i+1).toNat t.size)) (by rw [ByteArray.size_append];omega) (fun k=>?_)
          simp only [spec_l1Cur_spoilt.j1]
          rw [if_pos trivial,e1]
          simp only [Option.bind_some]
          rw [e2]
          simp only [Option.bind_some]
          rw [if_pos j0,if_pos hj,e3]
          simp only [Option.bind_some]
          rw [if_neg c0,if_neg c1,if_pos i0,if_pos (by omega),wi,if_pos (by omega),if_pos (by omega),if_pos (by omega),ew]
    · refine ⟨t,a,s,?_,by omega⟩
      refine Mth.Evn.step (g:=fun k=>spec_l1Cur_spoilt.j1 k t w ((n+1:Nat):Int) false c a s) (fun k=>by simp only [spec_l1Cur_spoilt.l0];rw [if_pos (by omega),decide_eq_false hz]) ?_
      exact (Mth.Evn.now _).step fun k=>by simp only [spec_l1Cur_spoilt.j1];rw [if_neg (by simp)]
theorem draw_text {c:List Int} (hc:bytes8 c):∃t:ByteArray,Mth.Evn (fun k=>spec_DrawParsePuzzle.f k c) t∧t.size≤1000:=by
  obtain ⟨o,l,a1,s1,e1,b1,ho,hl,hs⟩:=sure_puzzle_ev hc (a:=0) (by omega) (by omega) 0 4 (by omega) (by omega)
  have ht:=pzText_ev (o:=o) ho.1 ho.2 l hl hs
  have hz:(⟨((dig o.toNat).data.toList++[58]++txt l).toArray⟩:ByteArray).size≤100:=by
    have h1:=txt_len l hs
    have h2:=dg_size ho.2
    have h3:(dig o.toNat).data.toList.length=(dig o.toNat).size:=by rw [Array.length_toList];rfl
    show ((dig o.toNat).data.toList++[58]++txt l).length≤100
    rw [List.length_append,List.length_append,h3]
    simp;omega
  generalize (⟨((dig o.toNat).data.toList++[58]++txt l).toArray⟩:ByteArray)=t at ht hz
  obtain ⟨b,a2,s2,e2,b2⟩:=one_ev hc (a:=a1) (by omega) (by omega) s1 3 (by omega)
  have h0:∀r,Mth.Evn (fun k=>if b=true then (spec_l1Cur_spoilt.f k c a2 s2 t (⟨#[48,49,50,51,52,53,54,46,44,58]⟩:ByteArray)).bind fun q=>some q.1 else some t) r→Mth.Evn (fun k=>spec_DrawParsePuzzle.f k c) r:=fun r hr=>by
    unfold spec_DrawParsePuzzle.f
    refine e1.bind ?_
    refine ht.bind ?_
    refine Mth.Evn.congr (fun k=>?_) hr
    dsimp only
    rw [e2]
    rfl
  cases b with
  | false=>exact ⟨t,h0 _ (Mth.Evn.congr (fun k=>if_neg (by simp)) (Mth.Evn.now _)),by omega⟩
  | true=>
    obtain ⟨p,a3,s3,e3,b3,p0,_,p1⟩:=pick_ev hc (a:=a2) (by omega) (by omega) s2 2 (by omega)
    have hp:=p1 (by omega)
    obtain ⟨t',a',s',hr,hl'⟩:=spoilt_ev hc (⟨#[48,49,50,51,52,53,54,46,44,58]⟩:ByteArray) rfl (1+p).toNat t a3 s3 (by omega) (by omega) (by omega)
    refine ⟨t',h0 _ (Mth.Evn.congr (fun k=>if_pos rfl) ?_),hl'⟩
    have hf:Mth.Evn (fun k=>spec_l1Cur_spoilt.f k c a2 s2 t (⟨#[48,49,50,51,52,53,54,46,44,58]⟩:ByteArray)) (t',a',s'):=by
      unfold spec_l1Cur_spoilt.f
      refine Mth.Evn.congr (fun k=>?_) hr
      rw [e3]
      simp only [Option.bind_some]
      rw [wrap_id (x:=1+p) (by omega) (by omega),show (((1+p).toNat:Nat):Int)=1+p by omega]
    exact hf.bind (Mth.Evn.now _)
theorem mem_row {o:Int} {l:List S51} {w:Int} {c:S34} : ∀(n:Nat) (d:Int),c∈solRow o l w d n→c.f0=w∧c.f2=o∧d≤c.f1∧c.f1<d+n∧fitsAll o l w c.f1=true
  | 0,d,h=>by cases h
  | n+1,d,h=>by
    rw [solRow] at h
    rcases List.mem_append.1 h with h|h
    · by_cases e:fitsAll o l w d=true
      · rw [if_pos e,List.mem_singleton] at h
        subst h
        exact ⟨rfl,rfl,Int.le_refl _,by dsimp only;omega,e⟩
      · rw [if_neg e] at h;cases h
    · obtain ⟨h1,h2,h3,h4,h5⟩:=mem_row n (d+1) h
      exact ⟨h1,h2,by omega,by omega,h5⟩
theorem mem_all {o:Int} {l:List S51} {c:S34} : ∀(n:Nat) (w:Int),c∈solAll o l w n→c.f2=o∧(w≤c.f0∧c.f0<w+n)∧(0≤c.f1∧c.f1<((o+1).toNat:Int))∧fitsAll o l c.f0 c.f1=true
  | 0,w,h=>by cases h
  | n+1,w,h=>by
    rw [solAll] at h
    rcases List.mem_append.1 h with h|h
    · obtain ⟨h1,h2,h3,h4,h5⟩:=mem_row _ _ h
      refine ⟨h2,by omega,by omega,?_⟩
      rw [h1];exact h5
    · obtain ⟨h1,h2,h3,h4⟩:=mem_all n (w+1) h
      exact ⟨h1,by omega,h3,h4⟩
theorem mem_sols {o:Int} (ho:1≤o) {l:List S51} {c:S34} (h:c∈sols o l):c.f2=o∧(0≤c.f0∧c.f0≤o)∧(0≤c.f1∧c.f1≤o)∧fitsAll o l c.f0 c.f1=true:=by
  obtain ⟨h1,h2,h3,h4⟩:=mem_all _ _ h
  exact ⟨h1,by omega,by omega,h4⟩
def before (a b:S34):Prop:=a.f0<b.f0∨(a.f0=b.f0∧a.f1<b.f1)
theorem row_sorted (o:Int) (l:List S51) (w:Int):∀(n:Nat) (d:Int),(solRow o l w d n).Pairwise before
  | 0,d=>List.Pairwise.nil
  | n+1,d=>by
    rw [solRow,List.pairwise_append]
    refine ⟨by split <;> simp,row_sorted o l w n (d+1),fun a ha b hb=>?_⟩
    obtain ⟨h1,h2,h3,h4,h5⟩:=mem_row n (d+1) hb
    by_cases e:fitsAll o l w d=true
    · rw [if_pos e,List.mem_singleton] at ha
      subst ha
      exact .inr ⟨h1.symm,by dsimp only;omega⟩
    · rw [if_neg e] at ha;cases ha
theorem all_sorted (o:Int) (l:List S51):∀(n:Nat) (w:Int),(solAll o l w n).Pairwise before
  | 0,w=>List.Pairwise.nil
  | n+1,w=>by
    rw [solAll,List.pairwise_append]
    refine ⟨row_sorted o l w _ 0,all_sorted o l n (w+1),fun a ha b hb=>.inl ?_⟩
    have h1:=mem_row _ _ ha
    have h2:=mem_all _ _ hb
    omega
theorem sols_before (o:Int) (l:List S51) {i:Nat} (h:i+1<(sols o l).length):before (sols o l)[i] (sols o l)[i+1]:=
  have hs:(sols o l).Pairwise before:=all_sorted o l _ _
  List.pairwise_iff_getElem.1 hs i (i+1) (by omega) h (by omega)
theorem row_le {o:Int} {l l':List S51} (hf:∀w d,fitsAll o l' w d=true→fitsAll o l w d=true) (w:Int):∀(n:Nat) (d:Int),(solRow o l' w d n).length≤(solRow o l w d n).length
  | 0,d=>Nat.le_refl _
  | n+1,d=>by
    have ih:=row_le hf w n (d+1)
    rw [solRow,solRow,List.length_append,List.length_append]
    by_cases e:fitsAll o l' w d=true
    · rw [if_pos e,if_pos (hf w d e)]
      simp only [List.length_cons,List.length_nil];omega
    · rw [if_neg e,List.length_nil];omega
theorem all_le {o:Int} {l l':List S51} (hf:∀w d,fitsAll o l' w d=true→fitsAll o l w d=true):∀(n:Nat) (w:Int),(solAll o l' w n).length≤(solAll o l w n).length
  | 0,w=>Nat.le_refl _
  | n+1,w=>by
    have ih:=all_le hf n (w+1)
    have h:=row_le hf w (o+1).toNat 0
    rw [solAll,solAll,List.length_append,List.length_append];omega
theorem take_le (o:Int) (l:List S51) (i:Nat):(sols o (l.take (i+1))).length≤(sols o (l.take i)).length:=by
  refine all_le (fun w d h=>?_) _ _
  unfold fitsAll at h ⊢
  rw [List.take_add_one,List.all_append,Bool.and_eq_true] at h
  exact h.1
theorem row_full (o w:Int):∀(n:Nat) (d:Int),(solRow o ([]:List S51) w d n).length=n
  | 0,d=>rfl
  | n+1,d=>by
    rw [solRow,List.length_append,row_full o w n,if_pos (by rfl)]
    simp only [List.length_cons,List.length_nil];omega
theorem all_full (o:Int):∀(n:Nat) (w:Int),(solAll o ([]:List S51) w n).length=n*(o+1).toNat
  | 0,w=>by simp [solAll]
  | n+1,w=>by
    rw [solAll,List.length_append,row_full,all_full o n,Nat.succ_mul];omega
theorem sols_full {o:Int} (ho:1≤o):((sols o ([]:List S51)).length:Int)=(o+1)*(o+1):=by
  have h:(sols o ([]:List S51)).length=(o+1).toNat*(o+1).toNat:=all_full o _ 0
  rw [h,Int.natCast_mul,show (((o+1).toNat:Nat):Int)=o+1 by omega]
theorem left_rd (o:Int) (l:List S51):∀(n:Nat) (i:Int) (j:Nat),0≤i→j<n→rd (leftEnd o l n i) (j:Int)=((sols o (l.take (i.toNat+j))).length:Int)
  | 0,i,j,h0,h=>absurd h (by omega)
  | n+1,i,0,h0,h=>rfl
  | n+1,i,j+1,h0,h=>by
    have ih:=left_rd o l n (i+1) j (by omega) (by omega)
    rw [show (i+1).toNat+j=i.toNat+(j+1) by omega] at ih
    rw [← ih,leftEnd]
    unfold rd
    rw [Int.toNat_natCast,Int.toNat_natCast,List.getD_cons_succ]
theorem mem_need (o:Int) (l:List S51) (c j:Int):∀(n:Nat) (i:Int),j∈needEnd o l c n i ↔ (i≤j∧j<i+n)∧((sols o (wout l j)).length:Int)=c
  | 0,i=>by
    rw [needEnd]
    constructor
    · intro h;cases h
    · intro h;omega
  | n+1,i=>by
    rw [needEnd,List.mem_append,mem_need o l c j n (i+1)]
    constructor
    · rintro (h|h)
      · by_cases e:((sols o (wout l i)).length:Int)=c
        · rw [if_pos e,List.mem_singleton] at h
          subst h
          exact ⟨by omega,e⟩
        · rw [if_neg e] at h;cases h
      · exact ⟨by omega,h.2⟩
    · rintro ⟨h1,h2⟩
      by_cases e:j=i
      · subst e
        rw [if_pos h2]
        exact .inl List.mem_cons_self
      · exact .inr ⟨by omega,h2⟩
theorem best_in (o:Int) (l:List S51):∀(n:Nat) (i b m:Int),0≤i→(i=0∨(0≤b∧b<i))→0<i+n→(0≤(bestEnd o l n i b m).1∧(bestEnd o l n i b m).1<i+n)∧(bestEnd o l n i b m).2=true
  | 0,i,b,m,h0,h1,h2=>by
    rw [bestEnd]
    exact ⟨by dsimp only;omega,rfl⟩
  | n+1,i,b,m,h0,h1,h2=>by
    have key:∀b' m',0≤b'→b'<i+1→(0≤(bestEnd o l n (i+1) b' m').1∧(bestEnd o l n (i+1) b' m').1<i+(n+1:Nat))∧(bestEnd o l n (i+1) b' m').2=true:=by
      intro b' m' g0 g1
      have ih:=best_in o l n (i+1) b' m' (by omega) (.inr ⟨g0,g1⟩) (by omega)
      exact ⟨by omega,ih.2⟩
    rw [bestEnd]
    by_cases c0:i=0
    · rw [if_pos c0];exact key _ _ h0 (by omega)
    · rw [if_neg c0]
      split
      · exact key _ _ h0 (by omega)
      · exact key _ _ (by omega) (by omega)
theorem sure_in:∀(L:List S34) (a b:Int),(∀c,c∈L→(0≤(sureEnd a b L).1→c.f0=(sureEnd a b L).1)∧(0≤(sureEnd a b L).2.1→c.f1=(sureEnd a b L).2.1))∧((sureEnd a b L).1=a∨(sureEnd a b L).1 = -1)∧((sureEnd a b L).2.1=b∨(sureEnd a b L).2.1 = -1)∧(sureEnd a b L).2.2=true
  | [],a,b=>⟨fun c h=>(by cases h),.inl rfl,.inl rfl,rfl⟩
  | c::cs,a,b=>by
    obtain ⟨h1,h2,h3,h4⟩:=sure_in cs (if c.f0=a then a else -1) (if c.f1=b then b else -1)
    rw [sureEnd]
    generalize sureEnd (if c.f0=a then a else -1) (if c.f1=b then b else -1) cs=r at *
    refine ⟨fun x hx=>?_,?_,?_,h4⟩
    · rcases List.mem_cons.1 hx with rfl|hx
      · constructor
        · intro g
          by_cases e:x.f0=a
          · rw [if_pos e] at h2;omega
          · rw [if_neg e] at h2;omega
        · intro g
          by_cases e:x.f1=b
          · rw [if_pos e] at h3;omega
          · rw [if_neg e] at h3;omega
      · exact h1 x hx
    · by_cases e:c.f0=a
      · rw [if_pos e] at h2;exact h2
      · rw [if_neg e] at h2;omega
    · by_cases e:c.f1=b
      · rw [if_pos e] at h3;exact h3
      · rw [if_neg e] at h3;omega
theorem uChains_ev (S:List S34) (hl:S.length≤1000000):Mth.Evn (fun k=>laws_uChains.f k S S) true:=by
  have go:∀(d:Nat) (i:Int),0≤i→i+d=S.length→Mth.Evn (fun k=>laws_uChains.l0 k S S (S.length:Int) i) true:=by
    intro d
    induction d with
    | zero=>
      intro i h0 hi
      exact (Mth.Evn.now _).step fun k=>by simp only [laws_uChains.l0];rw [if_neg (by omega)]
    | succ d ih=>
      intro i h0 hi
      refine (ih (i+1) (by omega) (by omega)).step fun k=>?_
      simp only [laws_uChains.l0]
      rw [if_pos (by omega),if_pos h0,if_pos (by omega),if_pos (by omega),if_neg (by simp),wrap_id (x:=i+1) (by omega) (by omega)]
  unfold laws_uChains.f
  exact Mth.Evn.congr (fun k=>if_pos rfl) (go S.length 0 (by omega) (by omega))
theorem uSame_ev (S:List Int) (hl:S.length≤1000000):Mth.Evn (fun k=>laws_uSame.f k S S) true:=by
  have go:∀(d:Nat) (i:Int),0≤i→i+d=S.length→Mth.Evn (fun k=>laws_uSame.l0 k S S (S.length:Int) i) true:=by
    intro d
    induction d with
    | zero=>
      intro i h0 hi
      exact (Mth.Evn.now _).step fun k=>by simp only [laws_uSame.l0];rw [if_neg (by omega)]
    | succ d ih=>
      intro i h0 hi
      refine (ih (i+1) (by omega) (by omega)).step fun k=>?_
      simp only [laws_uSame.l0]
      rw [if_pos (by omega),if_pos h0,if_pos (by omega),if_pos (by omega),if_pos trivial,wrap_id (x:=i+1) (by omega) (by omega)]
  unfold laws_uSame.f
  exact Mth.Evn.congr (fun k=>if_pos rfl) (go S.length 0 (by omega) (by omega))
theorem uPuzzle_ev (o:Int) (S:List S51) (hl:S.length≤1000000):Mth.Evn (fun k=>laws_uPuzzle.f k o S o S) true:=by
  have go:∀(d:Nat) (i:Int),0≤i→i+d=S.length→Mth.Evn (fun k=>laws_uPuzzle.l0 k (S.length:Int) i o S o S) true:=by
    intro d
    induction d with
    | zero=>
      intro i h0 hi
      exact (Mth.Evn.now _).step fun k=>by simp only [laws_uPuzzle.l0];rw [if_neg (by omega)]
    | succ d ih=>
      intro i h0 hi
      refine (ih (i+1) (by omega) (by omega)).step fun k=>?_
      simp only [laws_uPuzzle.l0]
      rw [if_pos (by omega),if_pos h0,if_pos (by omega),if_pos (by omega),if_neg (by simp),wrap_id (x:=i+1) (by omega) (by omega)]
  unfold laws_uPuzzle.f
  refine Mth.Evn.congr (fun k=>if_pos rfl) ((go S.length 0 (by omega) (by omega)).step fun k=>?_)
  simp only [laws_uPuzzle.j0]
  rw [if_neg (by simp)]
theorem rd_int (xs:List Int) (i:Int) (h:i.toNat<xs.length):rd xs i=xs[i.toNat]:=by unfold rd;rw [List.getD_eq_getElem?_getD,List.getElem?_eq_getElem h];rfl
theorem uHas_ev (L:List Int) (hl:L.length≤1000000) (x:Int):Mth.Evn (fun k=>laws_uHas.f k L x) (decide (x∈L)):=by
  have go:∀(d:Nat) (i:Int),0≤i→i+d=L.length→Mth.Evn (fun k=>laws_uHas.l0 k x L (L.length:Int) i) (decide (x∈L.drop i.toNat)):=by
    intro d
    induction d with
    | zero=>
      intro i h0 hi
      rw [List.drop_eq_nil_of_le (by omega)]
      exact (Mth.Evn.now _).step fun k=>by simp only [laws_uHas.l0];rw [if_neg (by omega)];rfl
    | succ d ih=>
      intro i h0 hi
      have hlt:i.toNat<L.length:=by omega
      have ih:=ih (i+1) (by omega) (by omega)
      rw [show (i+1).toNat=i.toNat+1 by omega] at ih
      rw [List.drop_eq_getElem_cons hlt]
      by_cases e:L[i.toNat]=x
      · rw [decide_eq_true (by rw [e];exact List.mem_cons_self)]
        refine (Mth.Evn.now _).step fun k=>?_
        simp only [laws_uHas.l0]
        rw [if_pos (by omega),if_pos h0,if_pos (by omega),rd_int L i hlt,if_pos e]
      · have e2:decide (x∈L[i.toNat]::L.drop (i.toNat+1))=decide (x∈L.drop (i.toNat+1)):=by
          rw [decide_eq_decide,List.mem_cons]
          exact ⟨fun h=>h.resolve_left (fun q=>e q.symm),.inr⟩
        rw [e2]
        refine ih.step fun k=>?_
        simp only [laws_uHas.l0]
        rw [if_pos (by omega),if_pos h0,if_pos (by omega),rd_int L i hlt,if_neg e,wrap_id (x:=i+1) (by omega) (by omega)]
  unfold laws_uHas.f
  exact go L.length 0 (by omega) (by omega)
theorem doesFit_ev {o:Int} (ho:1≤o) (ho':o≤8) {w d:Int} (hw:0≤w) (hw':w≤o) (hd:0≤d) (hd':d≤o) {a b c:Int} (hc:clueOk a b c) (hf:fitsB w d o a b c=true):Mth.Evn (fun k=>impl_DoesFit.f k a b c w d o) (true,true):=by
  have h:=fits_ev ho ho' hw hw' hd hd' a b c
  rw [hf] at h
  unfold impl_DoesFit.f impl_isHidden.f
  rw [IsChain_eq,chain_good ho ho' hw hw' hd hd']
  simp only [Option.bind_some,if_true]
  rw [decide_eq_true ho']
  refine Mth.Evn.congr (fun k=>if_pos rfl) ?_
  refine Mth.Evn.bind (a:=true) ⟨1,fun k hk=>?_⟩ ?_
  · obtain ⟨k,rfl⟩:∃j,k=j+1:=⟨k - 1,by omega⟩
    show impl_IsClue.f (k+1) _ _ _ _=_
    rw [IsClue_eq,decide_eq_true ⟨⟨ho,ho'⟩,hc⟩]
  · exact Mth.Evn.congr (fun k=>if_pos rfl) (h.bind (Mth.Evn.now _))
theorem good_all {o:Int} {l:List S51} (h:goodP o l=true):∀x,x∈l→clueOk x.f0 x.f1 x.f2:=by
  unfold goodP at h
  simp only [Bool.and_eq_true,decide_eq_true_eq,List.all_eq_true] at h
  exact h.2.2
theorem specSolutions_ev (o:Int) (l:List S51):Mth.Evn (fun k=>spec_Solutions.f k o l) (if goodP o l=true then sols o l else [],goodP o l):=by
  unfold spec_Solutions.f
  refine specCount_ev o l (fun u=>(u,true)) ([],false) _ ?_
  cases goodP o l <;> rfl
theorem specCnt_ev (o:Int) (l:List S51):Mth.Evn (fun k=>spec_CountSolutions.f k o l) (if goodP o l=true then ((sols o l).length:Int) else 0,goodP o l):=by
  unfold spec_CountSolutions.f
  refine specCount_ev o l (fun u=>((u.length:Int),true)) (0,false) _ ?_
  cases goodP o l <;> rfl
theorem implCnt_ev (o:Int) (l:List S51):Mth.Evn (fun k=>impl_CountSolutions.f k o l) (if goodP o l=true then ((sols o l).length:Int) else 0,goodP o l):=by
  unfold impl_CountSolutions.f
  refine (Solutions_evn o l).bind ?_
  cases goodP o l <;> exact Mth.Evn.now _
theorem specSolved_ev (o:Int) (l:List S51):Mth.Evn (fun k=>spec_IsSolved.f k o l) (if goodP o l=true then ((sols o l).length:Int)==1 else false,goodP o l):=by
  unfold spec_IsSolved.f spec_pzSolved.f
  refine (pzGood_evn _ _).bind ?_
  cases h:goodP o l with
  | true=>
    obtain ⟨h1,h2,h3⟩:=goodP_of h
    refine Mth.Evn.congr (fun k=>if_pos rfl) (Mth.Evn.bind (a:=((sols o l).length:Int)==1) ?_ (Mth.Evn.now _))
    exact (pzAll_ev h1 h2 l (by omega)).bind (Mth.Evn.now _)
  | false=>exact Mth.Evn.congr (fun k=>if_neg (by simp)) (Mth.Evn.now _)
theorem implSolved_ev (o:Int) (l:List S51):Mth.Evn (fun k=>impl_IsSolved.f k o l) (if goodP o l=true then ((sols o l).length:Int)==1 else false,goodP o l):=by
  unfold impl_IsSolved.f
  refine (Solutions_evn _ _).bind ?_
  cases h:goodP o l <;> exact Mth.Evn.now _
def firstEnd (L:List S34):Int×Int×Int×Bool:=if (L.length:Int)=0 then (0,0,0,false) else ((rd_T34 L 0).f0,(rd_T34 L 0).f1,(rd_T34 L 0).f2,true)
theorem first_eq (L:List S34):(if (L.length:Int)=0 then (some ((0:Int),(0:Int),(0:Int),false)) else (if 0<(L.length:Int) then (some ((rd_T34 L 0).f0,(rd_T34 L 0).f1,(rd_T34 L 0).f2,true)) else (none)))=some (firstEnd L):=by
  unfold firstEnd
  by_cases h:(L.length:Int)=0
  · rw [if_pos h,if_pos h]
  · rw [if_neg h,if_neg h,if_pos (by omega)]
theorem specFirst_ev (o:Int) (l:List S51):Mth.Evn (fun k=>spec_FirstSolution.f k o l) (if goodP o l=true then firstEnd (sols o l) else (0,0,0,false)):=by
  unfold spec_FirstSolution.f
  simp only [first_eq]
  exact specCount_ev _ _ _ _ _ rfl
theorem implFirst_ev (o:Int) (l:List S51):Mth.Evn (fun k=>impl_FirstSolution.f k o l) (if goodP o l=true then firstEnd (sols o l) else (0,0,0,false)):=by
  unfold impl_FirstSolution.f
  simp only [first_eq]
  refine (Solutions_evn _ _).bind ?_
  cases h:goodP o l <;> exact Mth.Evn.now _
def sureAll (L:List S34):Int×Int×Bool:=if (L.length:Int)=0 then (0,0,false) else sureEnd (rd_T34 L 0).f0 (rd_T34 L 0).f1 L
theorem sureAll_ev (L:List S34) (hL:L.length≤1000):Mth.Evn (fun k=>if (L.length:Int)=0 then (some (0,0,false)) else (if 0<(L.length:Int) then (spec_SureChain.l0 k ((rd_T34 L 0).f0) ((rd_T34 L 0).f1) L (L.length:Int) 0) else (none))) (sureAll L):=by
  unfold sureAll
  by_cases h:(L.length:Int)=0
  · rw [if_pos h]
    exact Mth.Evn.congr (fun k=>if_pos h) (Mth.Evn.now _)
  · rw [if_neg h]
    exact Mth.Evn.congr (fun k=>(if_neg h).trans (if_pos (by omega))) (sure_ev L hL L.length _ _ 0 (by omega) (by omega))
theorem specSure_ev (o:Int) (l:List S51):Mth.Evn (fun k=>spec_SureChain.f k o l) (if goodP o l=true then sureAll (sols o l) else (0,0,false)):=by
  unfold spec_SureChain.f
  refine (pzGood_evn _ _).bind ?_
  cases h:goodP o l with
  | true=>
    obtain ⟨h1,h2,h3⟩:=goodP_of h
    exact Mth.Evn.congr (fun k=>if_pos rfl) ((pzAll_ev h1 h2 _ (by omega)).bind (sureAll_ev _ (Nat.le_trans (sols_len h1 h2 _) (by omega))))
  | false=>exact Mth.Evn.congr (fun k=>if_neg (by simp)) (Mth.Evn.now _)
theorem implSure_ev (o:Int) (l:List S51):Mth.Evn (fun k=>impl_SureChain.f k o l) (if goodP o l=true then sureAll (sols o l) else (0,0,false)):=by
  unfold impl_SureChain.f
  simp only [sure_same]
  refine (Solutions_evn _ _).bind ?_
  cases h:goodP o l with
  | true=>
    obtain ⟨h1,h2,h3⟩:=goodP_of h
    exact sureAll_ev _ (Nat.le_trans (sols_len h1 h2 _) (by omega))
  | false=>exact Mth.Evn.congr (fun k=>if_pos rfl) (Mth.Evn.now _)
def needAll (o:Int) (l:List S51):List Int:=if goodP o l=true then needEnd o l ((sols o l).length:Int) l.length 0 else []
theorem specNeedAll_ev (o:Int) (l:List S51):Mth.Evn (fun k=>spec_NeedlessClues.f k o l) (needAll o l,goodP o l):=by
  unfold spec_NeedlessClues.f needAll
  refine (pzGood_evn _ _).bind ?_
  cases h:goodP o l with
  | true=>
    obtain ⟨h1,h2,h3⟩:=goodP_of h
    exact Mth.Evn.congr (fun k=>if_pos rfl) ((pzAll_ev h1 h2 l (by omega)).bind (specNeed_ev h1 h2 l h3 _ l.length 0 [] (by omega) (by omega) (by simp;omega)))
  | false=>exact Mth.Evn.congr (fun k=>if_neg (by simp)) (Mth.Evn.now _)
theorem implNeedAll_ev (o:Int) (l:List S51):Mth.Evn (fun k=>impl_NeedlessClues.f k o l) (needAll o l,goodP o l):=by
  unfold impl_NeedlessClues.f needAll
  refine (Solutions_evn _ _).bind ?_
  cases h:goodP o l with
  | true=>
    obtain ⟨h1,h2,h3⟩:=goodP_of h
    exact Mth.Evn.congr (fun k=>if_pos rfl) (implNeed_ev h1 h2 l h3 (sols o l) l.length 0 [] (by omega) (by omega) (by simp;omega))
  | false=>exact Mth.Evn.congr (fun k=>if_neg (by simp)) (Mth.Evn.now _)
def leftAll (o:Int) (l:List S51):List Int:=if goodP o l=true then leftEnd o l (l.length+1) 0 else []
theorem specLeftAll_ev (o:Int) (l:List S51):Mth.Evn (fun k=>spec_LeftByClues.f k o l) (leftAll o l,goodP o l):=by
  unfold spec_LeftByClues.f leftAll
  refine (pzGood_evn _ _).bind ?_
  cases h:goodP o l with
  | true=>
    obtain ⟨h1,h2,h3⟩:=goodP_of h
    exact Mth.Evn.congr (fun k=>if_pos rfl) (specLeft_ev h1 h2 l h3 (l.length+1) 0 [] (by omega) (by omega) (by simp;omega))
  | false=>exact Mth.Evn.congr (fun k=>if_neg (by simp)) (Mth.Evn.now _)
theorem implLeftAll_ev (o:Int) (l:List S51):Mth.Evn (fun k=>impl_LeftByClues.f k o l) (leftAll o l,goodP o l):=by
  unfold impl_LeftByClues.f leftAll
  refine (IsPuzzle_evn _ _).bind ?_
  cases h:goodP o l with
  | true=>
    obtain ⟨h1,h2,h3⟩:=goodP_of h
    refine Mth.Evn.congr (fun k=>if_pos rfl) ?_
    rw [wrap_id (x:=(l.length:Int)+1) (by omega) (by omega)]
    exact implLeft_ev h1 h2 l h3 (l.length+1) 0 [] (by omega) (by omega) (by simp;omega)
  | false=>exact Mth.Evn.congr (fun k=>if_neg (by simp)) (Mth.Evn.now _)
def bestAll (o:Int) (l:List S51):Int×Bool:=if (goodP o l=true∧l.length≠0) then bestEnd o l l.length 0 0 0 else (0,false)
theorem bestAll_ev (o:Int) (l:List S51):Mth.Evn (fun k=>spec_BestClue.f k o l) (bestAll o l)∧Mth.Evn (fun k=>impl_BestClue.f k o l) (bestAll o l):=by
  have g1:=pzGood_evn o l
  have g2:=IsPuzzle_evn o l
  have sj:∀b,b=true→Mth.Evn (fun k=>spec_BestClue.j0 k b o l) (0,false):=fun b hb=>(Mth.Evn.now _).step fun k=>by simp only [spec_BestClue.j0];rw [if_pos hb]
  have ij:∀b,b=true→Mth.Evn (fun k=>impl_BestClue.j0 k b o l) (0,false):=fun b hb=>(Mth.Evn.now _).step fun k=>by simp only [impl_BestClue.j0];rw [if_pos hb]
  unfold bestAll spec_BestClue.f impl_BestClue.f
  cases h:goodP o l with
  | true=>
    rw [h] at g1 g2
    obtain ⟨h1,h2,h3⟩:=goodP_of h
    by_cases hz:l.length=0
    · rw [if_neg (fun q=>q.2 hz)]
      exact ⟨g1.bind (Mth.Evn.congr (fun k=>if_pos rfl) (sj _ (by simpa using hz))),g2.bind (Mth.Evn.congr (fun k=>if_pos rfl) (ij _ (by simpa using hz)))⟩
    · rw [if_pos ⟨rfl,hz⟩]
      refine ⟨g1.bind (Mth.Evn.congr (fun k=>if_pos rfl) (Mth.Evn.step (fun k=>?_) (specBest_ev h1 h2 l h3 l.length 0 0 0 (by omega) (by omega)))),g2.bind (Mth.Evn.congr (fun k=>if_pos rfl) (Mth.Evn.step (fun k=>?_) (implBest_ev h1 h2 l h3 l.length 0 0 0 (by omega) (by omega))))⟩
      · simp only [spec_BestClue.j0];rw [if_neg (by simpa using hz)]
      · simp only [impl_BestClue.j0];rw [if_neg (by simpa using hz)]
  | false=>
    rw [h] at g1 g2
    rw [if_neg (fun q=>by cases q.1)]
    exact ⟨g1.bind (Mth.Evn.congr (fun k=>if_neg (by simp)) (sj _ rfl)),g2.bind (Mth.Evn.congr (fun k=>if_neg (by simp)) (ij _ rfl))⟩
def textAll (o:Int) (l:List S51):ByteArray:=if goodP o l=true then mkB (P o l) else ⟨#[]⟩
theorem textAll_ev (o:Int) (l:List S51):Mth.Evn (fun k=>spec_PuzzleText.f k o l) (textAll o l,goodP o l)∧Mth.Evn (fun k=>impl_PuzzleText.f k o l) (textAll o l,goodP o l):=by
  have g1:=pzGood_evn o l
  have g2:=IsPuzzle_evn o l
  unfold textAll spec_PuzzleText.f impl_PuzzleText.f
  cases hg:goodP o l with
  | false=>
    rw [hg] at g1 g2
    exact ⟨g1.bind (Mth.Evn.congr (fun k=>if_neg (by simp)) (Mth.Evn.now _)),g2.bind (Mth.Evn.congr (fun k=>if_neg (by simp)) (Mth.Evn.now _))⟩
  | true=>
    rw [hg] at g1 g2
    obtain ⟨h1,h2,hs⟩:=good_of hg
    have e:mkB (P o l)=(⟨((dig o.toNat).data.toList++[58]++txt l).toArray⟩:ByteArray):=by
      unfold mkB P
      show (⟨(Lib.decDigits o.toNat++58::txt l).toArray⟩:ByteArray)=⟨(Lib.decDigits o.toNat++[58]++txt l).toArray⟩
      simp
    rw [if_pos rfl,e]
    refine ⟨g1.bind (Mth.Evn.congr (fun k=>if_pos rfl) ((pzText_ev (o:=o) (by omega) (by omega) l h2 hs).bind (Mth.Evn.now _))),g2.bind ?_⟩
    refine Mth.Evn.congr (fun k=>(if_pos rfl).trans ((if_pos (by omega)).trans (if_pos (by omega)))) ?_
    exact impl_l0 (o:=o) (by omega) (by omega) l h2 hs l.length 0 (List.replicate ((l.length:Int):Int).toNat _) (by omega) (by simp) (fun j hj=>by omega)
theorem good_wout {o:Int} {l:List S51} (h:goodP o l=true) {i:Int} (h0:0≤i) (h1:i<l.length):goodP o (wout l i)=true:=by
  have ha:=good_all h
  obtain ⟨g1,g2,g3⟩:=goodP_of h
  unfold goodP
  simp only [Bool.and_eq_true,decide_eq_true_eq,List.all_eq_true]
  refine ⟨⟨g1,g2⟩,?_,fun x hx=>?_⟩
  · simp only [wout,List.length_append,List.length_take,List.length_drop];omega
  · unfold wout at hx
    rcases List.mem_append.1 hx with hx|hx
    · exact ha x (List.mem_of_mem_take hx)
    · exact ha x (List.mem_of_mem_drop hx)
theorem j7_ev {c:List Int} (hc:bytes8 c):Mth.Evn (fun k=>laws_FnChainsGuessed.j7 k c) true:=by
  obtain ⟨t,ht,hz⟩:=draw_text hc
  refine Mth.Evn.step (fun k=>by simp only [laws_FnChainsGuessed.j7];rfl) ?_
  refine ht.bind ?_
  by_cases hh:∃(o:Int) (l:List S51),goodP o l=true∧t.data.toList=P o l
  · obtain ⟨o,l,h1,h2⟩:=hh
    have g:=goodP_of h1
    refine (pi_yes h1 h2).bind ((ps_yes h1 h2).bind ?_)
    refine Mth.Evn.congr (fun k=>if_neg (by simp)) ((uPuzzle_ev o l (by omega)).bind ?_)
    refine Mth.Evn.step (fun k=>by simp only [laws_FnChainsGuessed.j8];rw [if_neg (by simp),if_pos trivial]) ?_
    refine (textAll_ev o l).2.bind ?_
    refine Mth.Evn.congr (fun k=>if_pos h1) ?_
    have e:((textAll o l).toList==t.toList)=true:=by
      unfold textAll
      rw [if_pos h1,beq_iff_eq,dtl,dtl,h2];rfl
    dsimp only
    rw [e]
    exact Mth.Evn.now _
  · obtain ⟨r1,e1,q1⟩:=ps_any (t:=t) (by omega)
    obtain ⟨r2,e2,q2⟩:=pi_any (t:=t) (by omega)
    obtain rfl:=q1.resolve_right (fun q=>hh ⟨_,_,q⟩)
    obtain rfl:=q2.resolve_right (fun q=>hh ⟨_,_,q⟩)
    refine e2.bind (e1.bind ?_)
    refine Mth.Evn.congr (fun k=>if_neg (by simp)) ((uPuzzle_ev 0 [] (by simp)).bind ?_)
    refine (Mth.Evn.now _).step fun k=>?_
    simp only [laws_FnChainsGuessed.j8]
    rw [if_neg (by simp),if_neg (by simp)]
theorem leftAll_len {o:Int} {l:List S51} (h:goodP o l=true):(leftAll o l).length=l.length+1:=by
  unfold leftAll;rw [if_pos h,leftEnd_len]
theorem leftAll_rd {o:Int} {l:List S51} (h:goodP o l=true) {j:Nat} (hj:j≤l.length):rd (leftAll o l) (j:Int)=((sols o (l.take j)).length:Int):=by
  unfold leftAll
  rw [if_pos h,left_rd o l (l.length+1) 0 j (by omega) (by omega),show (0:Int).toNat+j=j by omega]
theorem needAll_mem {o:Int} {l:List S51} (h:goodP o l=true) {j:Int} (h0:0≤j) (h1:j<l.length):decide (j∈needAll o l)=(((sols o (wout l j)).length:Int)==((sols o l).length:Int)):=by
  unfold needAll
  rw [if_pos h]
  have e:=mem_need o l ((sols o l).length:Int) j l.length 0
  by_cases c:((sols o (wout l j)).length:Int)=((sols o l).length:Int)
  · rw [decide_eq_true (e.2 ⟨by omega,c⟩),beq_iff_eq.2 c]
  · rw [decide_eq_false (fun q=>c (e.1 q).2),beq_eq_false_iff_ne.2 c]
theorem needAll_len (o:Int) (l:List S51) (hl:l.length≤1000):(needAll o l).length≤1000:=by
  unfold needAll
  split
  · exact Nat.le_trans (needEnd_len _ _ _ _ _) hl
  · simp
theorem l2_ev {c:List Int} (hc:bytes8 c) {o:Int} {l:List S51} (h:goodP o l=true) {be:Int} (hb:l.length≠0→0≤be∧be<l.length):∀(d i:Nat),i+d=l.length→Mth.Evn (fun k=>laws_FnChainsGuessed.l2 k c ((sols o l).length:Int) (needAll o l) (leftAll o l) be (textAll o l) (l.length:Int) (i:Int) o l) true
  | 0,i,hi=>by
    obtain ⟨g1,g2,g3⟩:=goodP_of h
    refine Mth.Evn.step (fun k=>by simp only [laws_FnChainsGuessed.l2];rw [if_neg (by omega)]) ?_
    refine (pi_yes h (t:=textAll o l) (by unfold textAll;rw [if_pos h];rfl)).bind ?_
    refine Mth.Evn.congr (fun k=>if_pos rfl) ((uPuzzle_ev o l (by omega)).bind ?_)
    exact Mth.Evn.congr (fun k=>if_pos rfl) (j7_ev hc)
  | d+1,i,hi=>by
    obtain ⟨g1,g2,g3⟩:=goodP_of h
    have hd:=implDrop_ev o l (i:Int)
    rw [show dropEnd o l (i:Int)=(o,wout l i,true) by unfold dropEnd;rw [if_pos ⟨h,by omega,by omega⟩]] at hd
    have hcn:=implCnt_ev o (wout l (i:Int))
    rw [good_wout h (i:=(i:Int)) (by omega) (by omega),if_pos rfl] at hcn
    have hu:=uHas_ev (needAll o l) (Nat.le_trans (needAll_len o l (by omega)) (by omega)) (i:Int)
    rw [needAll_mem h (j:=(i:Int)) (by omega) (by omega)] at hu
    have ew:wrap64 ((i:Int)+1)=((i+1:Nat):Int):=by rw [wrap_id (by omega) (by omega)];omega
    have hll:=leftAll_len h
    have r1:=leftAll_rd h (j:=i) (by omega)
    have r2:=leftAll_rd h (j:=i+1) (by omega)
    have tl:=take_le o l i
    have hbb:=hb (by omega)
    refine Mth.Evn.step (fun k=>by simp only [laws_FnChainsGuessed.l2];rw [if_pos (by omega)]) ?_
    refine hd.bind (hcn.bind ?_)
    refine Mth.Evn.congr (fun k=>(if_pos rfl).trans (if_pos rfl)) (hu.bind ?_)
    refine Mth.Evn.congr (fun k=>(if_neg (by simp)).trans ?_) (l2_ev hc h hb d (i+1) (by omega))
    rw [ew,r1,r2,if_pos (by omega),if_pos (by omega),if_pos (by omega),if_pos (by omega),if_neg (by omega),if_neg (by omega),if_neg (by omega)]
section
variable {c:List Int} {o:Int} {l:List S51} (h:goodP o l=true) {n wet dry be:Int} {ne le:List Int} {T:ByteArray}
include h
theorem l1_ev {S:List S34} {m i:Int} {x:S34} (hx:x.f2=o∧(0≤x.f0∧x.f0≤o)∧(0≤x.f1∧x.f1≤o)∧fitsAll o l x.f0 x.f1=true) (hn:Mth.Evn (fun k=>laws_FnChainsGuessed.l0 k c S n wet dry ne le be T S m (wrap64 (i+1)) o l) true):∀(d j:Nat),j+d=l.length→Mth.Evn (fun k=>laws_FnChainsGuessed.l1 k c S n wet dry ne le be T S m i l (l.length:Int) (j:Int) o l x.f0 x.f1 x.f2) true
  | 0,j,hj=>by
    refine Mth.Evn.step (fun k=>?_) hn
    simp only [laws_FnChainsGuessed.l1];rw [if_neg (by omega)]
  | d+1,j,hj=>by
    obtain ⟨g1,g2,g3⟩:=goodP_of h
    have hlt:j<l.length:=by omega
    have hm:l[j]∈l:=List.getElem_mem hlt
    have hf:=hx.2.2.2
    unfold fitsAll at hf
    have er:rd_T51 l (j:Int)=l[j]:=by rw [rdg_get l (j:Int) (by omega)];rfl
    have hd:Mth.Evn (fun k=>impl_DoesFit.f k (l[j]).f0 (l[j]).f1 (l[j]).f2 x.f0 x.f1 x.f2) (true,true):=by
      rw [hx.1]
      exact doesFit_ev g1 g2 hx.2.1.1 hx.2.1.2 hx.2.2.1.1 hx.2.2.1.2 (good_all h _ hm) (List.all_eq_true.1 hf _ hm)
    have ew:wrap64 ((j:Int)+1)=((j+1:Nat):Int):=by rw [wrap_id (by omega) (by omega)];omega
    refine Mth.Evn.step (fun k=>by simp only [laws_FnChainsGuessed.l1,er];rw [if_pos (by omega),if_pos (by omega),if_pos (by omega)]) ?_
    refine hd.bind ?_
    refine Mth.Evn.congr (fun k=>(if_pos rfl).trans (if_pos rfl)) ?_
    rw [ew]
    exact l1_ev hx hn d (j+1) (by omega)
theorem j3_ev {i:Nat} (hi:i<(sols o l).length) (hn:Mth.Evn (fun k=>laws_FnChainsGuessed.l0 k c (sols o l) n wet dry ne le be T (sols o l) ((sols o l).length:Int) (wrap64 ((i:Int)+1)) o l) true):Mth.Evn (fun k=>laws_FnChainsGuessed.j3 k c (sols o l) n wet dry ne le be T (i:Int) (sols o l) ((sols o l).length:Int) (i:Int) false o l ((sols o l)[i]).f0 ((sols o l)[i]).f1 ((sols o l)[i]).f2) true:=by
  obtain ⟨g1,g2,g3⟩:=goodP_of h
  have hs:=sols_len g1 g2 l
  have hx:=mem_sols g1 (List.getElem_mem hi)
  have j4:Mth.Evn (fun k=>laws_FnChainsGuessed.j4 k c (sols o l) n wet dry ne le be T (sols o l) ((sols o l).length:Int) (i:Int) false o l ((sols o l)[i]).f0 ((sols o l)[i]).f1 ((sols o l)[i]).f2) true:=by
    refine Mth.Evn.step (fun k=>?_) (l1_ev h hx hn l.length 0 (by omega))
    simp only [laws_FnChainsGuessed.j4];rw [if_neg (by simp)];rfl
  refine Mth.Evn.step (fun k=>?_) j4
  by_cases hz:i=0
  · subst hz
    simp only [laws_FnChainsGuessed.j3]
    rw [if_neg (by simp),if_neg (by omega)]
  · obtain ⟨j,rfl⟩:∃j,i=j+1:=⟨i - 1,by omega⟩
    have hb:=sols_before o l hi
    have ew:wrap64 (((j+1:Nat):Int) - 1)=(j:Int):=by rw [wrap_id (by omega) (by omega)];omega
    have er:rd_T34 (sols o l) (j:Int)=(sols o l)[j]:=by rw [rds_get _ (j:Int) (by omega)];rfl
    simp only [laws_FnChainsGuessed.j3,ew,er]
    unfold before at hb
    rw [if_neg (by simp),if_pos (by omega),if_pos (by omega),if_pos (by omega),if_neg (by omega)]
    by_cases e:((sols o l)[j]).f0=((sols o l)[j+1]).f0
    · rw [if_pos e,decide_eq_false (by omega)]
    · rw [if_neg e]
theorem l0_ev (hw:∀x,x∈sols o l→(0≤wet→x.f0=wet)∧(0≤dry→x.f1=dry)) (h2:Mth.Evn (fun k=>laws_FnChainsGuessed.l2 k c n ne le be T (l.length:Int) 0 o l) true):∀(d i:Nat),i+d=(sols o l).length→Mth.Evn (fun k=>laws_FnChainsGuessed.l0 k c (sols o l) n wet dry ne le be T (sols o l) ((sols o l).length:Int) (i:Int) o l) true
  | 0,i,hi=>by
    refine Mth.Evn.step (fun k=>?_) h2
    simp only [laws_FnChainsGuessed.l0];rw [if_neg (by omega)]
  | d+1,i,hi=>by
    obtain ⟨g1,g2,g3⟩:=goodP_of h
    have hs:=sols_len g1 g2 l
    have hlt:i<(sols o l).length:=by omega
    have hx:=mem_sols g1 (List.getElem_mem hlt)
    have hq:=hw _ (List.getElem_mem hlt)
    have ew:wrap64 ((i:Int)+1)=((i+1:Nat):Int):=by rw [wrap_id (by omega) (by omega)];omega
    have hn:=l0_ev hw h2 d (i+1) (by omega)
    rw [← ew] at hn
    have er:rd_T34 (sols o l) (i:Int)=(sols o l)[i]:=by rw [rds_get _ (i:Int) (by omega)];rfl
    have e1:impl_IsChain.f ((sols o l)[i]).f0 ((sols o l)[i]).f1 ((sols o l)[i]).f2=some true:=by rw [IsChain_eq,decide_eq_true (by omega)]
    refine Mth.Evn.step (fun k=>?_) (j3_ev h hlt hn)
    simp only [laws_FnChainsGuessed.l0,er,e1]
    rw [if_pos (by omega),if_pos (by omega),if_pos (by omega)]
    simp only [Option.bind_some]
    rw [if_pos trivial,if_pos hx.1]
    by_cases c1:wet≥0
    · rw [if_pos c1,if_pos (hq.1 c1)]
      by_cases c2:dry≥0
      · rw [if_pos c2,hq.2 c2,bne_self_eq_false]
      · rw [if_neg c2]
    · rw [if_neg c1]
      by_cases c2:dry≥0
      · rw [if_pos c2,hq.2 c2,bne_self_eq_false]
      · rw [if_neg c2]
end
theorem one_of_len {α:Type} {L:List α} (h:L.length=1):∃x,L=[x]:=List.length_eq_one_iff.1 h
theorem j0_ev {c:List Int} (hc:bytes8 c) {o:Int} {l:List S51} (h:goodP o l=true):Mth.Evn (fun k=>laws_FnChainsGuessed.j0 k c (sols o l) true ((sols o l).length:Int) (firstEnd (sols o l)).2.2.2 (sureAll (sols o l)).1 (sureAll (sols o l)).2.1 (((sols o l).length:Int)==1) (needAll o l) (leftAll o l) (bestAll o l).1 (textAll o l) false o l (firstEnd (sols o l)).1 (firstEnd (sols o l)).2.1 (firstEnd (sols o l)).2.2.1) true:=by
  obtain ⟨g1,g2,g3⟩:=goodP_of h
  have hs:=sols_len g1 g2 l
  have hll:=leftAll_len h
  have r1:=leftAll_rd h (j:=0) (by omega)
  have r2:=leftAll_rd h (j:=l.length) (Nat.le_refl _)
  rw [List.take_zero,sols_full g1] at r1
  rw [List.take_length] at r2
  have q1:(o+1)*(o+1)≤9*9:=Int.mul_le_mul (by omega) (by omega) (by omega) (by omega)
  have q2:0≤(o+1)*(o+1):=Int.mul_nonneg (by omega) (by omega)
  have hbe:l.length≠0→0≤(bestAll o l).1∧(bestAll o l).1<l.length:=by
    intro hz
    unfold bestAll
    rw [if_pos ⟨h,hz⟩]
    have:=(best_in o l l.length 0 0 0 (by omega) (.inl rfl) (by omega)).1
    omega
  have hw:∀x,x∈sols o l→(0≤(sureAll (sols o l)).1→x.f0=(sureAll (sols o l)).1)∧(0≤(sureAll (sols o l)).2.1→x.f1=(sureAll (sols o l)).2.1):=by
    intro x hx
    unfold sureAll
    rw [if_neg (by have:=List.length_pos_of_mem hx;omega)]
    exact (sure_in (sols o l) _ _).1 x hx
  have hl0:=l0_ev h hw (l2_ev hc h hbe l.length 0 (by omega)) (sols o l).length 0 (by omega)
  have j1:Mth.Evn (fun k=>laws_FnChainsGuessed.j1 k c (sols o l) ((sols o l).length:Int) (sureAll (sols o l)).1 (sureAll (sols o l)).2.1 (needAll o l) (leftAll o l) (bestAll o l).1 (textAll o l) false o l) true:=by
    refine Mth.Evn.step (fun k=>?_) hl0
    simp only [laws_FnChainsGuessed.j1];rw [if_neg (by simp)];rfl
  refine Mth.Evn.step (fun k=>?_) j1
  have e0:rd (leftAll o l) 0=(o+1)*(o+1):=r1
  have ew1:wrap64 ((l.length:Int)+1)=(l.length:Int)+1:=wrap_id (by omega) (by omega)
  have ew2:wrap64 (o+1)=o+1:=wrap_id (by omega) (by omega)
  have ew3:wrap64 ((o+1)*(o+1))=(o+1)*(o+1):=wrap_id (by omega) (by omega)
  simp only [laws_FnChainsGuessed.j0,ew1,ew2,ew3,e0,r2]
  rw [if_neg (by simp),if_pos trivial,if_pos trivial]
  by_cases hz:(sols o l).length=0
  · have hf:firstEnd (sols o l)=(0,0,0,false):=by unfold firstEnd;rw [if_pos (by omega)]
    rw [hf]
    dsimp only
    rw [if_neg (by simp),if_neg (by simp),if_pos (by omega),if_pos (by omega),if_pos trivial,if_pos (by omega),if_pos (by omega),if_pos trivial,if_neg (by rw [beq_iff_eq];omega)]
  · have hf:firstEnd (sols o l)=((rd_T34 (sols o l) 0).f0,(rd_T34 (sols o l) 0).f1,(rd_T34 (sols o l) 0).f2,true):=by unfold firstEnd;rw [if_neg (by omega)]
    rw [hf]
    dsimp only
    rw [if_pos rfl,if_pos (by omega),if_neg (by simp),if_neg (by simp),if_pos (by omega),if_pos (by omega),if_pos trivial,if_pos (by omega),if_pos (by omega),if_pos trivial]
    by_cases h1:(sols o l).length=1
    · have hsu:sureAll (sols o l)=((rd_T34 (sols o l) 0).f0,(rd_T34 (sols o l) 0).f1,true):=by
        unfold sureAll
        obtain ⟨x,hx⟩:=one_of_len h1
        rw [hx]
        have e:rd_T34 [x] 0=x:=rfl
        rw [if_neg (by simp),e,sureEnd,if_pos rfl,if_pos rfl,sureEnd]
      rw [if_pos (by rw [beq_iff_eq];omega),hsu]
      dsimp only
      rw [if_pos rfl,bne_self_eq_false]
    · rw [if_neg (by rw [beq_iff_eq];omega)]
theorem chain_ev {c1 c2:List Int} {o n:Int} {l:List S51} {S:List S34} {G so:Bool} {fr:Int×Int×Int×Bool} {su:Int×Int×Bool} {ne le:List Int} {be:Int×Bool} {T:ByteArray} (hbig:laws_big.f c1 c2=some false)
    (hd:Mth.Evn (fun k=>spec_DrawSolutions.f k c1) (o,l)) (hS:S.length≤1000) (hne:ne.length≤1000) (hle:le.length≤1000)
    (a1:Mth.Evn (fun k=>impl_Solutions.f k o l) (S,G)) (b1:Mth.Evn (fun k=>spec_Solutions.f k o l) (S,G))
    (a2:Mth.Evn (fun k=>impl_CountSolutions.f k o l) (n,G)) (b2:Mth.Evn (fun k=>spec_CountSolutions.f k o l) (n,G))
    (a3:Mth.Evn (fun k=>impl_FirstSolution.f k o l) fr) (b3:Mth.Evn (fun k=>spec_FirstSolution.f k o l) fr)
    (a4:Mth.Evn (fun k=>impl_SureChain.f k o l) su) (b4:Mth.Evn (fun k=>spec_SureChain.f k o l) su)
    (a5:Mth.Evn (fun k=>impl_IsSolved.f k o l) (so,G)) (b5:Mth.Evn (fun k=>spec_IsSolved.f k o l) (so,G))
    (a6:Mth.Evn (fun k=>impl_NeedlessClues.f k o l) (ne,G)) (b6:Mth.Evn (fun k=>spec_NeedlessClues.f k o l) (ne,G))
    (a7:Mth.Evn (fun k=>impl_LeftByClues.f k o l) (le,G)) (b7:Mth.Evn (fun k=>spec_LeftByClues.f k o l) (le,G))
    (a8:Mth.Evn (fun k=>impl_BestClue.f k o l) be) (b8:Mth.Evn (fun k=>spec_BestClue.f k o l) be)
    (a9:Mth.Evn (fun k=>impl_PuzzleText.f k o l) (T,G)) (b9:Mth.Evn (fun k=>spec_PuzzleText.f k o l) (T,G))
    (a10:Mth.Evn (fun k=>impl_IsPuzzle.f k o l) G) (b10:Mth.Evn (fun k=>spec_IsPuzzle.f k o l) G)
    (hfr:fr.2.2.2=(G && decide (n>0))) (hsu:su.2.2=fr.2.2.2) (hbe:be.2=(G && decide ((l.length:Int)>0)))
    (hj:Mth.Evn (fun k=>laws_FnChainsGuessed.j0 k c2 S G n fr.2.2.2 su.1 su.2.1 so ne le be.1 T false o l fr.1 fr.2.1 fr.2.2.1) true):Mth.Evn (fun k=>laws_FnChainsGuessed.f k c1 c2) true:=by
  unfold laws_FnChainsGuessed.f
  rw [hbig]
  simp only [Option.bind_some]
  refine Mth.Evn.congr (fun k=>if_neg (by simp)) ?_
  refine hd.bind (a1.bind (b1.bind (a2.bind (b2.bind (a3.bind (b3.bind (a4.bind (b4.bind (a5.bind (b5.bind (a6.bind (b6.bind (a7.bind (b7.bind (a8.bind (b8.bind (a9.bind (b9.bind ?_))))))))))))))))))
  refine Mth.Evn.congr (fun k=>if_neg (by simp)) ((uChains_ev S (by omega)).bind ?_)
  refine Mth.Evn.congr (fun k=>(if_pos rfl).trans ((if_neg (by simp)).trans ((if_pos rfl).trans ((if_neg (by simp)).trans ((if_neg (by simp)).trans ((if_neg (by simp)).trans ((if_pos rfl).trans ((if_pos rfl).trans ((if_neg (by simp)).trans ((if_neg (by simp)).trans (if_neg (by simp)))))))))))) ((uSame_ev ne (by omega)).bind ?_)
  refine Mth.Evn.congr (fun k=>(if_pos rfl).trans (if_neg (by simp))) ((uSame_ev le (by omega)).bind ?_)
  refine Mth.Evn.congr (fun k=>(if_pos rfl).trans ((if_neg (by simp)).trans ((if_pos rfl).trans ((if_neg (by simp)).trans (if_pos rfl))))) (a10.bind ?_)
  refine Mth.Evn.congr (fun k=>if_neg (by simp)) (a10.bind (b10.bind ?_))
  refine Mth.Evn.congr (fun k=>(if_neg (by simp)).trans (if_neg (by simp))) ?_
  have e:(G != G)=false:=by simp
  cases G with
  | true=>
    refine Mth.Evn.congr (fun k=>(if_pos rfl).trans ((if_neg (by rw [hfr];simp)).trans ((if_neg (by rw [hsu];simp)).trans ((if_neg (by simp)).trans ((if_neg (by simp)).trans ((if_neg (by simp)).trans (if_neg (by rw [hbe];simp)))))))) ?_
    exact hj
  | false=>
    refine Mth.Evn.congr (fun k=>(if_neg (by simp)).trans ((if_neg (by rw [hfr];simp)).trans ((if_neg (by rw [hsu];simp)).trans ((if_neg (by simp)).trans ((if_neg (by simp)).trans ((if_neg (by simp)).trans (if_neg (by rw [hbe];simp)))))))) ?_
    exact hj
theorem law_ev {c1 c2:List Int} (h1:bytes8 c1) (h2:bytes8 c2):Mth.Evn (fun k=>laws_FnChainsGuessed.f k c1 c2) true:=by
  have hb:∃b,laws_big.f c1 c2=some b:=by
    unfold laws_big.f
    split <;> exact ⟨_,rfl⟩
  obtain ⟨b,hb⟩:=hb
  cases b with
  | true=>
    unfold laws_FnChainsGuessed.f
    rw [hb]
    exact Mth.Evn.now _
  | false=>
    obtain ⟨o,l,hd,hl⟩:=draw_puzzle h1
    have b10:Mth.Evn (fun k=>spec_IsPuzzle.f k o l) (goodP o l):=by
      unfold spec_IsPuzzle.f;exact (pzGood_evn _ _).bind (Mth.Evn.now _)
    refine chain_ev hb hd ?_ (needAll_len o l hl) ?_ (Solutions_evn o l) (specSolutions_ev o l) (implCnt_ev o l) (specCnt_ev o l) (implFirst_ev o l) (specFirst_ev o l) (implSure_ev o l) (specSure_ev o l) (implSolved_ev o l) (specSolved_ev o l) (implNeedAll_ev o l) (specNeedAll_ev o l) (implLeftAll_ev o l) (specLeftAll_ev o l) (bestAll_ev o l).2 (bestAll_ev o l).1 (textAll_ev o l).2 (textAll_ev o l).1 (IsPuzzle_evn o l) b10 ?_ ?_ ?_ ?_
    · cases h:goodP o l with
      | true=>obtain ⟨g1,g2,g3⟩:=goodP_of h;rw [if_pos rfl];exact Nat.le_trans (sols_len g1 g2 l) (by omega)
      | false=>simp
    · unfold leftAll
      split
      · rw [leftEnd_len];rename_i h;have:=(goodP_of h).2.2;omega
      · simp
    · cases h:goodP o l with
      | true=>
        simp only [if_true,Bool.true_and]
        unfold firstEnd
        split
        · rw [decide_eq_false (by omega)]
        · rw [decide_eq_true (by omega)]
      | false=>rfl
    · cases h:goodP o l with
      | true=>
        simp only [if_true]
        unfold firstEnd sureAll
        split
        · rfl
        · exact (sure_in _ _ _).2.2.2
      | false=>rfl
    · unfold bestAll
      cases h:goodP o l with
      | true=>
        by_cases hz:l.length=0
        · rw [if_neg (fun q=>q.2 hz),decide_eq_false (by omega)];rfl
        · rw [if_pos ⟨rfl,hz⟩,decide_eq_true (by omega)]
          exact (best_in o l l.length 0 0 0 (by omega) (.inl rfl) (by omega)).2
      | false=>rw [if_neg (fun q=>by cases q.1)];rfl
    · cases h:goodP o l with
      | true=>simp only [if_true];exact j0_ev h2 h
      | false=>
        refine Mth.Evn.step (fun k=>?_) (j7_ev h2)
        simp only [laws_FnChainsGuessed.j0]
        rw [if_neg (by simp),if_neg (by simp)]
theorem byte_of {xs:List Int} (h:∀x∈xs,(Lit.int .u8 x).wf=true):bytes8 xs:=by
  intro x hx
  have h1:=h x hx
  have e1:IntKind.u8.min=0:=by decide
  have e2:IntKind.u8.max=255:=by decide
  simp [Lit.wf] at h1
  omega
theorem holds:laws_FnChainsGuessed.Pure:=fun l0 l1 _ _ h0 _ _ h1=>(law_ev (byte_of h0) (byte_of h1)).get
end Go.Proofs.YtdphjeiccokhnaaGreatDoor.PureFnChainsGuessed
