/- Plain arithmetic, and answers that come with enough rounds. No condition. -/

set_option linter.unusedVariables false
namespace Go.Proofs.YtdphjeiccokhnaaGreatDoor.Mth
def dv (n d:Int):Int:=if d<0 then -(Int.gcd n d:Int) else (Int.gcd n d:Int)
def low (n d:Int):Int×Int:=(n / dv n d,d / dv n d)
theorem dv_dvd_left (n d:Int):dv n d ∣ n:=by
  unfold dv;split
  · exact Int.neg_dvd.2 (Int.gcd_dvd_left n d)
  · exact Int.gcd_dvd_left n d
theorem dv_dvd_right (n d:Int):dv n d ∣ d:=by
  unfold dv;split
  · exact Int.neg_dvd.2 (Int.gcd_dvd_right n d)
  · exact Int.gcd_dvd_right n d
theorem low_num (n d:Int):dv n d*(low n d).1=n:=Int.mul_ediv_cancel' (dv_dvd_left n d)
theorem low_den (n d:Int):dv n d*(low n d).2=d:=Int.mul_ediv_cancel' (dv_dvd_right n d)
theorem low_pos {n d:Int} (hd:d≠0):0<(low n d).2:=by
  have e:=low_den n d
  have g:=Int.gcd_pos_of_ne_zero_right n hd
  by_cases h:d<0
  · have hv:dv n d<0:=by unfold dv;rw [if_pos h];omega
    rcases Int.lt_trichotomy (low n d).2 0 with h1|h1|h1
    · have:=Int.mul_pos_of_neg_of_neg hv h1;omega
    · rw [h1,Int.mul_zero] at e;omega
    · exact h1
  · have hv:0<dv n d:=by unfold dv;rw [if_neg h];omega
    rcases Int.lt_trichotomy (low n d).2 0 with h1|h1|h1
    · have:=Int.mul_neg_of_pos_of_neg hv h1;omega
    · rw [h1,Int.mul_zero] at e;omega
    · exact h1
theorem low_val {n d:Int} : (low n d).1*d=n*(low n d).2:=by
  have a:=low_num n d
  have b:=low_den n d
  generalize (low n d).1=x at *
  generalize (low n d).2=y at *
  generalize dv n d=g at *
  subst a b
  ac_rfl
theorem low_nonneg {n d:Int} (hd:0<d) (hn:0≤n):0≤(low n d).1:=by
  have e:(low n d).1*d=n*(low n d).2:=low_val
  have p:=low_pos (n:=n) (d:=d) (by omega)
  by_cases h:(low n d).1<0
  · have h1:=Int.mul_neg_of_neg_of_pos h hd
    have h2:=Int.mul_nonneg hn (Int.le_of_lt p)
    omega
  · omega
theorem low_den_le {n d:Int} (hd:0<d):(low n d).2≤d:=by
  have e:=low_den n d
  have p:=low_pos (n:=n) (d:=d) (by omega)
  have g:=Int.gcd_pos_of_ne_zero_right n (b:=d) (by omega)
  have hv:1≤dv n d:=by unfold dv;rw [if_neg (by omega)];omega
  have:=Int.mul_le_mul_of_nonneg_right hv (Int.le_of_lt p)
  omega
theorem low_num_le {n d:Int} (hd:0<d) (hn:0≤n):(low n d).1≤n:=by
  have e:=low_num n d
  have p:=low_nonneg hd hn
  have g:=Int.gcd_pos_of_ne_zero_right n (b:=d) (by omega)
  have hv:1≤dv n d:=by unfold dv;rw [if_neg (by omega)];omega
  have:=Int.mul_le_mul_of_nonneg_right hv p
  omega
theorem gcd_step (a b:Int):Int.gcd b (a.tmod b)=Int.gcd a b:=by
  show Nat.gcd b.natAbs (a.tmod b).natAbs=Nat.gcd a.natAbs b.natAbs
  rw [Int.natAbs_tmod,Nat.gcd_comm a.natAbs,Nat.gcd_rec b.natAbs a.natAbs,Nat.gcd_comm]
end Go.Proofs.YtdphjeiccokhnaaGreatDoor.Mth
namespace Go.Proofs.YtdphjeiccokhnaaGreatDoor.Mth
def S (p q:Int) (G:Nat):Nat→Int
  | 0=>0
  | P+1=>S p q G P+q ^ P*p ^ (G - 1 - P)
end Go.Proofs.YtdphjeiccokhnaaGreatDoor.Mth
namespace Go.Proofs.YtdphjeiccokhnaaGreatDoor.Mth
def Evn {α:Type} (f:Nat→Option α) (r:α):Prop:=∃K,∀k,K≤k→f k=some r
theorem Evn.step {α:Type} {f g:Nat→Option α} {r:α} (h:∀k,f (k+1)=g k) (hg:Evn g r):Evn f r:=by
  obtain ⟨K,hK⟩:=hg
  refine ⟨K+1,fun k hk=>?_⟩
  obtain ⟨m,rfl⟩:∃m,k=m+1:=⟨k - 1,by omega⟩
  rw [h];exact hK m (by omega)
theorem Evn.congr {α:Type} {f g:Nat→Option α} {r:α} (h:∀k,f k=g k) (hg:Evn g r):Evn f r:=by
  obtain ⟨K,hK⟩:=hg
  exact ⟨K,fun k hk=>(h k).trans (hK k hk)⟩
theorem Evn.bind {α β:Type} {f:Nat→Option α} {g:Nat→α→Option β} {a:α} {r:β} (hf:Evn f a) (hg:Evn (fun k=>g k a) r):Evn (fun k=>(f k).bind (g k)) r:=by
  obtain ⟨K,hK⟩:=hf
  obtain ⟨K',hK'⟩:=hg
  refine ⟨max K K',fun k hk=>?_⟩
  show (f k).bind (g k)=some r
  rw [hK k (by omega)];exact hK' k (by omega)
theorem Evn.now {α:Type} (r:α):Evn (fun _=>some r) r:=⟨0,fun _ _=>rfl⟩
theorem Evn.get {α:Type} {f:Nat→Option α} {r:α} (h:Evn f r):∃k,f k=some r:=by
  obtain ⟨K,hK⟩:=h
  exact ⟨K,hK K (Nat.le_refl _)⟩
end Go.Proofs.YtdphjeiccokhnaaGreatDoor.Mth
