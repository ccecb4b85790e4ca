/- The reference's table, and its errors. Distances of five points, closed over all others: what the loops reckon (plain). The loop that closes distances ends, and what it leaves (plain). Distances closed, in a form that the kernel reckons quickly; what clocks show, and when (plain). Contracts of the inner functions of the clock layer that are run most often: the least of some numbers, distances closed. Contracts: what a clock shows, and when it shows a number. Calls that are looked up: distances closed, when a clock shows a number. What is looked up while awake() is run is so. awake10() is not run again. Contracts of the generic functions, instance by instance (printed by a program of ours). Tables of eyes, lights and pieces: what they are, check, opened. Tables copied and compared; the reference's table. What eyes see: greatest, sees, looks, look, apart, alike, match. Looks, one after the other; those that tell two shades apart. look, alike, match. Sees, Apart, Match, Scrap. -/
import Derived.KernelRfl
import Derived.Test.YtiphdfiihgbomacGreatAb2
import Derived.Test.YtiphdfiihgbomacGreatOk
import Derived.Test.YtiphdfiihgbomacGreatAbU
import Derived.Test.YtiphdfiihgbomacGreatAc2
import Derived.Test.YtiphdfiihgbomacGreatAc7
import Derived.Test.YtiphdfiihgbomacGreatAc9
import Derived.Test.YtiphdfiihgbomacGreatAc4
import Derived.Test.YtiphdfiihgbomacGreatAc8
set_option linter.unusedSimpArgs false
set_option linter.unusedVariables false
namespace Go.Ab
def mg (L:List Int)(a b:Nat):Int:=L.getD (5*a+b) 0
def rl (m a b:Nat)(L:List Int):List Int:=L.set (5*a+b) (min (mg L a b) (mg L a m+mg L m b))
def run5:Nat→List Int→List Int
 |0,L=>L
 |k+1,L=>rl (k/25) (k/5%5) (k%5) (run5 k L)
theorem run5_at {m a b:Nat}(ha:a<5)(hb:b<5)(L:List Int):run5 (25*m+5*a+b+1) L=rl m a b (run5 (25*m+5*a+b) L):=by
 rw[run5,show(25*m+5*a+b)/25=m by omega,show(25*m+5*a+b)/5%5=a by omega,show(25*m+5*a+b)%5=b by omega]
theorem rl_len (m a b:Nat)(L:List Int):(rl m a b L).length=L.length:=by simp[rl]
theorem run5_len (L:List Int):∀k,(run5 k L).length=L.length
 |0=>rfl
 |k+1=>by rw[run5,rl_len,run5_len L k]
theorem mg_rl {L:List Int}(hL:L.length=25){m a b:Nat}(ha:a<5)(hb:b<5)(x y:Nat)(hx:x<5)(hy:y<5):mg (rl m a b L) x y=if x=a∧y=b then min (mg L a b) (mg L a m+mg L m b) else mg L x y:=by
 unfold rl
 generalize min (mg L a b) (mg L a m+mg L m b)=v
 unfold mg
 rw[List.getD_eq_getElem?_getD,List.getD_eq_getElem?_getD,List.getElem?_set]
 by_cases h:x=a∧y=b
 ·obtain⟨rfl,rfl⟩:=h
  have:5*x+y<25:=by omega
  simp[hL,this]
 ·rw[if_neg h]
  have:5*a+b≠5*x+y:=by omega
  simp[this]
theorem rl_le {L:List Int}(hL:L.length=25){m a b:Nat}(ha:a<5)(hb:b<5){x y:Nat}(hx:x<5)(hy:y<5):mg (rl m a b L) x y≤mg L x y:=by
 rw[mg_rl hL ha hb x y hx hy]
 split
 ·rename_i h;obtain⟨rfl,rfl⟩:=h;omega
 ·omega
theorem run5_le {L:List Int}(hL:L.length=25){x y:Nat}(hx:x<5)(hy:y<5):∀{k j:Nat},j≤k→mg (run5 k L) x y≤mg (run5 j L) x y
 |0,j,h=>by
   have:j=0:=by omega
   subst this;exact Int.le_refl _
 |k+1,j,h=>by
  rcases Nat.lt_or_ge k j with h1|h1
  ·have:j=k+1:=by omega
   subst this;exact Int.le_refl _
  ·have h2:=run5_le hL hx hy (k:=k) h1
   have h3:=rl_le (L:=run5 k L) (by rw[run5_len];exact hL) (m:=k/25) (a:=k/5%5) (b:=k%5) (by omega) (by omega) hx hy
   rw[run5];omega
structure Bd (C:Int)(m a b:Nat)(L:List Int):Prop where
 all:∀x y,x<5→y<5→ -(6*C)≤mg L x y
 col:∀x,x<5→ -(3*C)≤mg L x m
 row:∀y,y<5→ -(3*C)≤mg L m y
 mid: -(2*C)≤mg L m m
 colN:∀x,x<5→(a<x∨(x=a∧b≤m))→ -C≤mg L x m
 rowN:∀y,y<5→(a<m∨(m=a∧b≤y))→ -C≤mg L m y
theorem Bd.start {C:Int}(hC:0≤C){L:List Int}{m:Nat}(hm:m<5)(h:∀x y,x<5→y<5→ -C≤mg L x y):Bd C m 0 0 L:=
 ⟨fun x y hx hy=>by have:=h x y hx hy;omega,fun x hx=>by have:=h x m hx hm;omega,fun y hy=>by have:=h m y hm hy;omega,by have:=h m m hm hm;omega,fun x hx _=>h x m hx hm,fun y hy _=>h m y hm hy⟩
theorem Bd.step {C:Int}(hC:0≤C){L:List Int}(hL:L.length=25){m a b:Nat}(hm:m<5)(ha:a<5)(hb:b<5)(h:Bd C m a b L):Bd C m a (b+1) (rl m a b L):=by
 have hv:∀v,mg L a b=v→min v (mg L a m+mg L m b)=min v (mg L a m+mg L m b):=fun _ _=>rfl
 have c1:=h.col a ha
 have r1:=h.row b hb
 have al:=h.all a b ha hb
 have hmm:=h.mid
 refine⟨fun x y hx hy=>?_,fun x hx=>?_,fun y hy=>?_,?_,fun x hx hp=>?_,fun y hy hp=>?_⟩
 ·rw[mg_rl hL ha hb x y hx hy]
  have:=h.all x y hx hy
  split<;>omega
 ·rw[mg_rl hL ha hb x m hx hm]
  have:=h.col x hx
  split
  ·rename_i e;obtain⟨rfl,rfl⟩:=e
   have:=h.colN x hx (.inr ⟨rfl,Nat.le_refl _⟩)
   omega
  ·omega
 ·rw[mg_rl hL ha hb m y hm hy]
  have:=h.row y hy
  split
  ·rename_i e;obtain⟨rfl,rfl⟩:=e
   have:=h.rowN y hy (.inr ⟨rfl,Nat.le_refl _⟩)
   omega
  ·omega
 ·rw[mg_rl hL ha hb m m hm hm]
  split
  ·rename_i e;obtain⟨rfl,rfl⟩:=e
   have:=h.colN m hm (.inr ⟨rfl,Nat.le_refl _⟩)
   omega
  ·omega
 ·rw[mg_rl hL ha hb x m hx hm,if_neg (by omega)]
  exact h.colN x hx (by omega)
 ·rw[mg_rl hL ha hb m y hm hy,if_neg (by omega)]
  exact h.rowN y hy (by omega)
theorem Bd.next {C:Int}{L:List Int}{m a:Nat}(h:Bd C m a 5 L)(hm:m<5):Bd C m (a+1) 0 L:=
 ⟨h.all,h.col,h.row,h.mid,fun x hx hp=>h.colN x hx (by omega),fun y hy hp=>h.rowN y hy (by omega)⟩
theorem run5_bd {C:Int}(hC:0≤C){L:List Int}(hL:L.length=25){m:Nat}(hm:m<5)(h:∀x y,x<5→y<5→ -C≤mg (run5 (25*m) L) x y):∀{a b:Nat},a<5→b≤5→Bd C m a b (run5 (25*m+5*a+b) L)
 |0,0,_,_=>Bd.start hC hm h
 |a+1,0,ha,_=>by
  have:=(run5_bd hC hL hm h (a:=a) (b:=5) (by omega) (Nat.le_refl _)).next hm
  rwa[show 25*m+5*a+5=25*m+5*(a+1)+0 by omega] at this
 |a,b+1,ha,hb=>by
  have ih:=run5_bd hC hL hm h (a:=a) (b:=b) ha (by omega)
  rw[←Nat.add_assoc,run5_at ha (by omega)]
  exact ih.step hC (by rw[run5_len];exact hL) hm ha (by omega)
 termination_by a b=>6*a+b
theorem run5_stage {C:Int}(hC:0≤C){L:List Int}(hL:L.length=25)(h:∀x y,x<5→y<5→ -C≤mg L x y):∀{m:Nat},m≤5→∀x y,x<5→y<5→ -(6^m*C)≤mg (run5 (25*m) L) x y
 |0,_,x,y,hx,hy=>by simpa[run5] using h x y hx hy
 |m+1,hm,x,y,hx,hy=>by
  have hC':0≤6^m*C:=Int.mul_nonneg (by exact Int.pow_nonneg (by decide)) hC
  have:=(run5_bd hC' hL (m:=m) (by omega) (run5_stage hC hL h (m:=m) (by omega)) (a:=4) (b:=5) (by omega) (Nat.le_refl _)).all x y hx hy
  rw[show 25*(m+1)=25*m+5*4+5 by omega,show(6:Int)^(m+1)=6*6^m by rw[Int.pow_succ,Int.mul_comm],Int.mul_assoc]
  omega
theorem run5_low {C:Int}(hC:0≤C){L:List Int}(hL:L.length=25)(h:∀x y,x<5→y<5→ -C≤mg L x y){k:Nat}(hk:k≤125){x y:Nat}(hx:x<5)(hy:y<5): -(7776*C)≤mg (run5 k L) x y:=by
 have h1:=run5_stage hC hL h (m:=5) (by omega) x y hx hy
 have h2:=run5_le hL hx hy (k:=25*5) (j:=k) (by omega)
 have:(6:Int)^5=7776:=by decide
 rw[this] at h1
 omega
theorem run5_le0 {L:List Int}(hL:L.length=25){x y:Nat}(hx:x<5)(hy:y<5)(k:Nat):mg (run5 k L) x y≤mg L x y:=run5_le hL hx hy (j:=0) (Nat.zero_le _)
attribute [irreducible] run5
end Go.Ab
namespace Go.Ab
theorem lt_or_ge_Z (a b:Int):a<b∨b≤a:=by omega
def neg5 (L:List Int):Bool:=decide (mg L 0 0<0)||(decide (mg L 1 1<0)||(decide (mg L 2 2<0)||(decide (mg L 3 3<0)||decide (mg L 4 4<0))))
theorem neg5_iff {L:List Int}:neg5 L=true↔∃a,a<5∧mg L a a<0:=by
 simp only[neg5,Bool.or_eq_true,decide_eq_true_eq]
 constructor
 ·rintro(h|h|h|h|h)
  ·exact⟨0,by omega,h⟩
  ·exact⟨1,by omega,h⟩
  ·exact⟨2,by omega,h⟩
  ·exact⟨3,by omega,h⟩
  ·exact⟨4,by omega,h⟩
 ·rintro⟨a,ha,h⟩
  have:a=0∨a=1∨a=2∨a=3∨a=4:=by omega
  rcases this with rfl|rfl|rfl|rfl|rfl<;>simp[h]
def clo:Nat→List Int→List Int × Bool
 |0,L=>(L,true)
 |n+1,L=>if neg5 (run5 125 L)=true then(run5 125 L,false) else if run5 125 L=L then(run5 125 L,true) else clo n (run5 125 L)
def sum5 (L:List Int):Int:=L.foldr (· + ·) 0
theorem sum5_le:∀{L K:List Int},L.length=K.length→(∀i,L.getD i 0≤K.getD i 0)→sum5 L≤sum5 K∧(sum5 L=sum5 K→L=K)
 |[],[],_,_=>⟨Int.le_refl _,fun _=>rfl⟩
 |a::L,b::K,hl,h=>by
  have ih:=sum5_le (L:=L) (K:=K) (by simpa using hl) fun i=>by have:=h (i+1);simpa using this
  have h0:=h 0
  simp only[List.getD_cons_zero] at h0
  simp only[sum5,List.foldr_cons] at ih⊢
  refine⟨by omega,fun e=>?_⟩
  have e1:a=b:=by omega
  rw[e1,ih.2 (by omega)]
theorem sum5_ge {B:Int}:∀{L:List Int},(∀i,i<L.length→ -B≤L.getD i 0)→ -(B*L.length)≤sum5 L
 |[],_=>by simp[sum5]
 |a::L,h=>by
  have ih:=sum5_ge (B:=B) (L:=L) fun i hi=>by have:=h (i+1) (by simp;omega);simpa using this
  have h0:=h 0 (by simp)
  simp only[List.getD_cons_zero] at h0
  simp only[sum5,List.foldr_cons,List.length_cons] at ih⊢
  have:B*((L.length+1:Nat):Int)=B*L.length+B:=by rw[Int.natCast_add,Int.mul_add];simp
  rw[this];omega
theorem getD_mg (L:List Int)(i:Nat):L.getD i 0=mg L (i/5) (i%5):=by
 unfold mg;rw[show 5*(i/5)+i%5=i by omega]
structure In5 (B:Int)(L:List Int):Prop where
 len:L.length=25
 hi:∀a b,a<5→b<5→mg L a b≤B
 lo:∀a b,a<5→b<5→ -B≤mg L a b
theorem round_neg {B:Int}{L:List Int}(hL:L.length=25)(hi:∀a b,a<5→b<5→mg L a b≤B){a b:Nat}(ha:a<5)(hb:b<5)(h:mg L a b< -B):neg5 (run5 125 L)=true:=by
 refine neg5_iff.2 ⟨a,ha,?_⟩
 have h1:mg (run5 (25*b+5*a+a+1) L) a a<0:=by
  rw[run5_at ha ha,mg_rl (by rw[run5_len];exact hL) ha ha a a ha ha,if_pos ⟨rfl,rfl⟩]
  have h2:=run5_le0 hL ha hb (25*b+5*a+a)
  have h3:=run5_le0 hL hb ha (25*b+5*a+a)
  have h4:=hi b a hb ha
  omega
 have:=run5_le hL ha ha (k:=125) (j:=25*b+5*a+a+1) (by omega)
 omega
structure Run5 (B:Int)(L:List Int):Prop where
 len:L.length=25
 hi:∀a b,a<5→b<5→mg L a b≤B
 lo:∀a b,a<5→b<5→ -(7776*B)≤mg L a b
theorem In5.run {B:Int}(hB:0≤B){L:List Int}(h:In5 B L):Run5 B L:=⟨h.len,h.hi,fun a b ha hb=>by have:=h.lo a b ha hb;omega⟩
theorem Run5.next {B:Int}(hB:0≤B){L:List Int}(h:Run5 B L)(hn:neg5 (run5 125 L)=false)(hne:run5 125 L≠L):Run5 B (run5 125 L)∧ -(25*B)≤sum5 L∧sum5 (run5 125 L)<sum5 L:=by
 have hlo:∀a b,a<5→b<5→ -B≤mg L a b:=fun a b ha hb=>by
  rcases lt_or_ge_Z (mg L a b) (-B) with h1|h1
  ·rw[round_neg h.len h.hi ha hb h1] at hn;cases hn
  ·exact h1
 have hle:∀i,(run5 125 L).getD i 0≤L.getD i 0:=fun i=>by
  rcases Nat.lt_or_ge i 25 with hi|hi
  ·rw[getD_mg,getD_mg]
   exact run5_le0 h.len (x:=i/5) (y:=i%5) (by omega) (by omega) 125
  ·have e1:(run5 125 L)[i]? =none:=List.getElem?_eq_none (by rw[run5_len,h.len];exact hi)
   have e2:L[i]? =none:=List.getElem?_eq_none (by rw[h.len];exact hi)
   rw[List.getD_eq_getElem?_getD,List.getD_eq_getElem?_getD,e1,e2]
   exact Int.le_refl _
 have hs:=sum5_le (by rw[run5_len]) hle
 refine⟨⟨by rw[run5_len];exact h.len,fun a b ha hb=>?_,fun a b ha hb=>run5_low hB h.len hlo (Nat.le_refl _) ha hb⟩,?_,?_⟩
 ·have:=run5_le0 h.len ha hb (125)
  have:=h.hi a b ha hb
  omega
 ·have:=sum5_ge (B:=B) (L:=L) fun i hi=>by rw[getD_mg];rw[h.len] at hi;exact hlo _ _ (by omega) (by omega)
  rw[h.len] at this
  omega
 ·rcases lt_or_ge_Z (sum5 (run5 125 L)) (sum5 L) with h1|h1
  ·exact h1
  ·exact absurd (hs.2 (by omega)) hne
def left5 (B:Int)(L:List Int):Nat:=(sum5 L+25*B+1).toNat
theorem Run5.left {B:Int}(hB:0≤B){L:List Int}(h:Run5 B L)(hn:neg5 (run5 125 L)=false)(hne:run5 125 L≠L):left5 B (run5 125 L)<left5 B L:=by
 obtain⟨_,h1,h2⟩:=h.next hB hn hne
 unfold left5;omega
theorem clo_more {B:Int}(hB:0≤B):∀{n m:Nat} {L:List Int},Run5 B L→left5 B L<n→left5 B L<m→clo n L=clo m L
 |0,_,_,_,h,_=>by omega
 |_,0,_,_,_,h=>by omega
 |n+1,m+1,L,hr,hn,hm=>by
  simp only[clo]
  split
  ·rfl
  ·rename_i h1
   split
   ·rfl
   ·rename_i h2
    have h1':neg5 (run5 125 L)=false:=by simpa using h1
    have:=hr.left hB h1' h2
    exact clo_more hB (hr.next hB h1' h2).1 (by omega) (by omega)
theorem left5_le {B:Int}{L:List Int}(h:L.length=25)(hi:∀a b,a<5→b<5→mg L a b≤B):left5 B L≤(50*B+1).toNat:=by
 have:sum5 L≤B*25:=by
  have:∀{L:List Int},(∀i,i<L.length→L.getD i 0≤B)→sum5 L≤B*L.length:=by
   intro L
   induction L with
   |nil=>intro _;simp[sum5]
   |cons a L ih=>
    intro h
    have:=ih fun i hi=>by have:=h (i+1) (by simp;omega);simpa using this
    have h0:=h 0 (by simp)
    simp only[List.getD_cons_zero] at h0
    simp only[sum5,List.foldr_cons,List.length_cons] at this⊢
    have:B*((L.length+1:Nat):Int)=B*L.length+B:=by rw[Int.natCast_add,Int.mul_add];simp
    rw[this];omega
  have:=this (L:=L) fun i hi'=>by rw[getD_mg];rw[h] at hi';exact hi _ _ (by omega) (by omega)
  rwa[h] at this
 unfold left5;omega
def clos (L:List Int):List Int × Bool:=clo 12002 L
theorem clos_eq {B:Int}(hB:0≤B)(hB2:B≤240){L:List Int}(h:Run5 B L){n:Nat}(hn:left5 B L<n):clo n L=clos L:=by
 have:=left5_le h.len h.hi
 exact clo_more hB h hn (by omega)
end Go.Ab
namespace Go.Ab
def getI:List Int→Nat→Int
 |[],_=>0
 |x::_,0=>x
 |_::l,k+1=>getI l k
theorem getI_eq:∀(l:List Int) (k:Nat),getI l k=l.getD k 0
 |[],k=>by simp[getI]
 |x::l,0=>by simp[getI]
 |x::l,k+1=>by simp[getI,getI_eq l k]
def setF {β:Type}(v:Int):List Int→Nat→(List Int→β)→β
 |[],_,f=>f []
 |_::l,0,f=>f (v::l)
 |x::l,k+1,f=>setF v l k fun r=>f (x::r)
theorem setF_eq {β:Type}(v:Int):∀(l:List Int) (k:Nat) (f:List Int→β),setF v l k f=f (l.set k v)
 |[],k,f=>by simp[setF]
 |x::l,0,f=>rfl
 |x::l,k+1,f=>by simp[setF,setF_eq v l k]
def stepK {β:Type}(L:List Int)(s:Nat × Nat × Nat)(f:List Int→β):β:=match s with
 |(i,j,k)=>zf (getI L j+getI L k) fun v=>match ilt v (getI L i) with
  |true=>setF v L i f
  |false=>f L
def runK {β:Type}:List (Nat × Nat × Nat)→List Int→(List Int→β)→β
 |[],L,f=>f L
 |s::l,L,f=>stepK L s fun L=>runK l L f
def stepsK (n:Nat):List (Nat × Nat × Nat):=(List.range n).map fun k=>(5*(k/5%5)+k%5,5*(k/5%5)+k/25,5*(k/25)+k%5)
theorem set_self:∀(L:List Int) (i:Nat),L.set i (L.getD i 0)=L
 |[],i=>by simp
 |x::l,0=>by simp
 |x::l,i+1=>by simpa using set_self l i
theorem stepK_eq {β:Type}(L:List Int)(k:Nat)(f:List Int→β):
  stepK L (5*(k/5%5)+k%5,5*(k/5%5)+k/25,5*(k/25)+k%5) f=f (rl (k/25) (k/5%5) (k%5) L):=by
 simp only[stepK,zf_eq,getI_eq,ilt_eq,rl,mg]
 generalize 5*(k/5%5)+k%5=i
 generalize L.getD (5*(k/5%5)+k/25) 0+L.getD (5*(k/25)+k%5) 0=v
 by_cases h:v<L.getD i 0
 ·simp only[h,decide_true,setF_eq]
  rw[Int.min_eq_right (by omega)]
 ·simp only[h,decide_false]
  rw[Int.min_eq_left (by omega),set_self]
theorem runK_append {β:Type}:∀(l r:List (Nat × Nat × Nat)) (L:List Int) (f:List Int→β),runK (l++r) L f=runK l L fun L=>runK r L f
 |[],r,L,f=>rfl
 |s::l,r,L,f=>by
  have:runK l=fun(L:List Int) (f:List Int→β)=>runK l L f:=rfl
  simp only[List.cons_append,runK,runK_append l r]
theorem runK_eq {β:Type}:∀(n:Nat) (L:List Int) (f:List Int→β),runK (stepsK n) L f=f (run5 n L)
 |0,L,f=>by rw[run5];rfl
 |n+1,L,f=>by
  have:stepsK (n+1)=stepsK n++[(5*(n/5%5)+n%5,5*(n/5%5)+n/25,5*(n/25)+n%5)]:=by simp[stepsK,List.range_succ]
  rw[this,runK_append,runK_eq n]
  show stepK _ _ (fun L=>runK [] L f)=_
  rw[stepK_eq,run5];rfl
def isNeg:Int→Bool
 |.ofNat _=>false
 |.negSucc _=>true
theorem isNeg_eq (n:Int):isNeg n=decide (n<0):=by
 cases n with
 |ofNat n=>simp[isNeg]
 |negSucc n=>simp[isNeg]
theorem bsel_or (a b:Bool):bsel a true b=(a||b):=by cases a<;>rfl
def neg5K (L:List Int):Bool:=bsel (isNeg (getI L 0)) true (bsel (isNeg (getI L 6)) true (bsel (isNeg (getI L 12)) true (bsel (isNeg (getI L 18)) true (isNeg (getI L 24)))))
theorem neg5K_eq (L:List Int):neg5K L=neg5 L:=by
 simp only[neg5K,bsel_or,getI_eq,isNeg_eq]
 unfold neg5 mg
 rfl
def eqL:List Int→List Int→Bool
 |[],[]=>true
 |a::l,b::r=>match ieq a b with|true=>eqL l r|false=>false
 |_,_=>false
theorem eqL_eq:∀(l r:List Int),eqL l r=decide (l=r)
 |[],[]=>by simp[eqL]
 |[],_::_=>by simp[eqL]
 |_::_,[]=>by simp[eqL]
 |a::l,b::r=>by
  simp only[eqL,ieq_eq]
  by_cases h:a=b
  ·simp[h,eqL_eq l r]
  ·have:(a==b)=false:=by simpa using h
   simp[this,h]
def cloK (T:List (Nat × Nat × Nat)):Nat→List Int→List Int × Bool
 |0,L=>(L,true)
 |n+1,L=>runK T L fun K=>match neg5K K with
  |true=>(K,false)
  |false=>match eqL K L with
   |true=>(K,true)
   |false=>cloK T n K
theorem cloK_eq:∀(n:Nat) (L:List Int),cloK (stepsK 125) n L=clo n L
 |0,L=>rfl
 |n+1,L=>by
  simp only[cloK,runK_eq,neg5K_eq,eqL_eq,clo]
  cases neg5 (run5 125 L) with
  |true=>simp
  |false=>
   by_cases h:run5 125 L=L
   ·simp[h]
   ·simp[h,cloK_eq n]
def shw (set gain m:Int):Int:=set+m+m*gain/60
theorem shw_go (n:Int):(if n<0 then n-59 else n).tdiv 60=n/60:=by
 split
 ·rename_i h
  have:n-59= -(59-n):=by omega
  rw[this,Int.neg_tdiv,Int.tdiv_eq_ediv_of_nonneg (by omega)];omega
 ·rw[Int.tdiv_eq_ediv_of_nonneg (by omega)]
def whn (set gain s:Int):Nat→Int × Int
 |0=>(1,0)
 |m+1=>if shw set gain m=s then(if(whn set gain s m).2<(whn set gain s m).1 then((m:Int),(m:Int)) else((whn set gain s m).1,(m:Int))) else whn set gain s m
def whnK (p:Nat→Bool):Nat→Nat→Int × Int→Int × Int
 |0,_,s=>s
 |n+1,m,s=>match p m with
  |true=>(match s with|(lo,hi)=>match ilt hi lo with
   |true=>nf (m+1) fun k=>whnK p n k (.ofNat m,.ofNat m)
   |false=>nf (m+1) fun k=>whnK p n k (lo,.ofNat m))
  |false=>nf (m+1) fun k=>whnK p n k s
theorem whnK_eq (set gain s:Int):∀(n m:Nat),whnK (fun m=>ieq (set+ .ofNat m+ .ofNat m*gain/60) s) n m (whn set gain s m)=whn set gain s (m+n)
 |0,m=>rfl
 |n+1,m=>by
  have ih:=whnK_eq set gain s n (m+1)
  rw[show m+(n+1)=m+1+n by omega,←ih]
  simp only[whnK,nf_eq,ieq_eq,ilt_eq,whn,shw,Int.ofNat_eq_natCast]
  by_cases h:set+(m:Int)+(m:Int)*gain/60=s
  ·simp only[h,BEq.rfl,if_true]
   by_cases h2:(whn set gain s m).2<(whn set gain s m).1<;>simp[h2]
  ·have:(set+(m:Int)+(m:Int)*gain/60==s)=false:=by simpa using h
   simp only[this,h,if_false]
end Go.Ab
namespace Go.Ab
theorem nth_iv {L:List Int}{k:Nat}(h:k<L.length):nth k (L.map iv)=some (.int .i64 (L.getD k 0)):=by
 rw[nth_eq,List.getElem?_map,List.getElem?_eq_getElem h,List.getD_eq_getElem?_getD,List.getElem?_eq_getElem h];rfl
theorem allOne_iv (L:List Int):allOne (L.map iv)=true:=allOne_eq.2 fun v hv=>by
 obtain⟨n,_,rfl⟩:=List.mem_map.1 hv;rfl
theorem put_ints {h:H}{b:Nat}{L K:List Int}(hb:h.get b=some (.cells .rw (L.map iv)))(hl:K.length=L.length)(hn:K≠[]):h.put b 0 (K.map iv)=some (h.set b (.cells .rw (K.map iv))):=by
 cases K with
 |nil=>exact absurd rfl hn
 |cons a K=>
  have hp:putN 0 ((a::K).map iv) (L.map iv)=some ((a::K).map iv):=by
   refine(putN_eq (by simp)).2 ⟨?_,by rw[List.length_map,List.length_map];omega⟩
   rw[List.drop_eq_nil_of_le (by rw[List.length_map,List.length_map];omega),List.append_nil,List.take_zero,List.nil_append]
  exact H.put_rw (allOne_iv (a::K)) hb hp
theorem putN_iv {L:List Int}{k:Nat}(hk:k<L.length)(v:Int):putN k [.int .i64 v] (L.map iv)=some ((L.set k v).map iv):=by
 refine(putN_eq (by simp)).2 ⟨?_,by simp;omega⟩
 rw[List.map_set,List.set_eq_take_append_cons_drop,if_pos (by simpa using hk)]
 simp[iv]
theorem nth_mg {L:List Int}(hL:L.length=25){x y:Nat}(hx:x<5)(hy:y<5):nth (x*5+y*1) (L.map iv)=some (.int .i64 (mg L x y)):=by
 rw[nth_iv (by omega)];unfold mg;rw[show x*5+y*1=5*x+y by omega]
theorem iaa5 (sz b o:Nat){k:Nat}(hk:k<5):q_iaa 5 sz (.ptr b o) (.int .i64 (k:Int))=some (.ptr b (o+k*sz)):=q_iaa_ptr (nat_cst k) hk
theorem lenN_iv (L:List Int):lenN (L.map iv)=L.length:=by rw[lenN_eq,List.length_map]
theorem getN_iv (L:List Int):getN 0 L.length (L.map iv)=some (L.map iv):=getN_full (by simp)
theorem Run5.add {L:List Int}(h:Run5 240 L){k:Nat}(hk:k<125): -9223372036854775808≤mg (run5 k L) (k/5%5) (k/25)+mg (run5 k L) (k/25) (k%5)∧mg (run5 k L) (k/5%5) (k/25)+mg (run5 k L) (k/25) (k%5)≤9223372036854775807:=by
 have lo:=fun x y hx hy=>run5_low (C:=7776*240) (by omega) h.len (fun a b ha hb=>h.lo a b ha hb) (k:=k) (by omega) (x:=x) (y:=y) hx hy
 have a1:=lo (k/5%5) (k/25) (by omega) (by omega)
 have a2:=lo (k/25) (k%5) (by omega) (by omega)
 have b1:=run5_le0 h.len (x:=k/5%5) (y:=k/25) (by omega) (by omega) k
 have b2:=run5_le0 h.len (x:=k/25) (y:=k%5) (by omega) (by omega) k
 have c1:=h.hi (k/5%5) (k/25) (by omega) (by omega)
 have c2:=h.hi (k/25) (k%5) (by omega) (by omega)
 omega
structure CI (h:H)(B:Nat)(K Z:List Int)(j:Nat)(tm:T V)(h':H):Prop where
 sub:h.Sub h'
 nx:B<h'.next
 gf:h'.get h.next=some (.cells .rw ((run5 j K).map iv))
 gr:h'.get (h.next+1)=some (.cells .rw (Z.map iv))
 gb:h'.get B=some (.cells .rw (K.map iv))
 e1:(Opd.t 1).ev tm=.ptr h.next 0
 e2:(Opd.t 2).ev tm=.ptr (h.next+1) 0
 e4:(Opd.t 4).ev tm=.ptr B 0
end Go.Ab
namespace Go.Ab.Tryz
open Go.Proofs
variable {fast:Nat→Option (List V→H→Option (V × H))}
theorem least_ev (f1:fast 74=none){h:H}{x:V}{l:List Int}(hw:h.wf)(hx:SlAt h x 1 (l.map fun n=>[iv n]))(n:Int)(Q:V→H→Prop)(q:∀h',h.Sub h'→Q (.int .i64 (l.foldl min n)) h'):
  Ev fnG fast (.fn 74 [] []) [.int .i64 n,x] h Q:=by
 have hb:=hx.boundE
 refine Ev_body (fd:=c74) f1 rfl rfl ?_
 simp -implicitDefEqProofs(maxSteps:=999999)(disch:=first|with_reducible rfl|omega|(simp only[nA,nS,nD]<;>omega)|fail)only[c74,go_sem,hx.lenE]
 refine W_count l.length (fun i s=>∃tm h',s=⟨tm,h',[]⟩∧h.Sub h'∧(Opd.t 0).ev tm=.int .i64 ((l.take i).foldl min n)∧(Opd.t 7).ev tm=x∧(Opd.t 8).ev tm=.int .i64 (l.length:Int)∧(Opd.t 9).ev tm=.int .i64 (i:Int))
  ?_ ?_ (i:=0) (Nat.zero_le _) ⟨_,_,rfl,H.Sub.refl hw,(by simp[ev_c,ev_put]<;>rfl),(by simp[ev_c,ev_put]<;>rfl),(by simp[ev_c,ev_put]<;>rfl),(by simp[ev_c,ev_put]<;>rfl)⟩
 ·rintro i s hi ⟨tm,h',rfl,hs,e0,e7,e8,e9⟩
  have hi':(i:Int)<(l.length:Int):=by omega
  obtain⟨b,o,c,cs,rfl,hc,hq,hg,hn,hn0⟩:=(hx.mono hs).at hi
  have hnt:nth (o+i*1) cs=some (.int .i64 l[i]):=hn0 (by omega)
  simp -implicitDefEqProofs(maxSteps:=999999)(disch:=first|with_reducible rfl|omega|(simp only[nA,nS,nD]<;>omega)|fail)only[go_sem,e0,e7,e8,e9,hi',hq (nat_cst i),hc,hnt,wr_succ]
  exact⟨_,_,rfl,hs,(by rw[List.take_succ_eq_append_getElem hi,List.foldl_append];exact(by simp[ev_c,ev_put]<;>rfl)),(by simp[ev_c,ev_put,e7]<;>rfl),(by simp[ev_c,ev_put,e8]<;>rfl),(by simp[ev_c,ev_put]<;>rfl)⟩
 ·rintro s ⟨tm,h',rfl,hs,e0,e7,e8,e9⟩
  simp -implicitDefEqProofs(maxSteps:=999999)(disch:=first|with_reducible rfl|omega|(simp only[nA,nS,nD]<;>omega)|fail)only[go_sem,e0,e7,e8,e9,Int.lt_irrefl]
  rw[List.take_length]
  exact q _ hs
set_option maxHeartbeats 1000000 in
theorem closed_ev (f1:fast 74=none)(f2:fast 107=none){h:H}(hw:h.wf){L:List Int}(hL:In5 240 L)(Q:V→H→Prop)(q:∀h',h.Sub h'→Q (.tup [.agg ((clos L).1.map iv),.bool (clos L).2]) h'):
  Ev fnG fast (.fn 107 [] []) [.agg (L.map iv)] h Q:=by
 have hl:=hL.len
 have h55:¬(((5:Nat):Int)<5):=by omega
 have hz:∃Z:List Int,Z.length=25∧Z.map iv=[.int .i64 0,.int .i64 0,.int .i64 0,.int .i64 0,.int .i64 0,.int .i64 0,.int .i64 0,.int .i64 0,.int .i64 0,.int .i64 0,.int .i64 0,.int .i64 0,.int .i64 0,.int .i64 0,.int .i64 0,.int .i64 0,.int .i64 0,.int .i64 0,.int .i64 0,.int .i64 0,.int .i64 0,.int .i64 0,.int .i64 0,.int .i64 0,.int .i64 0]:=⟨List.replicate 25 0,rfl,rfl⟩
 obtain⟨Z,lZ,hZ⟩:=hz
 refine Ev_body (fd:=c107) f2 rfl rfl ?_
 simp -implicitDefEqProofs(maxSteps:=999999)(disch:=first|with_reducible rfl|omega|(simp only[nA,nS,nD]<;>omega)|fail)only[c107,go_sem]
 rw[←hZ]
 have s2:h.Sub ((h.add (.cells .rw (L.map iv))).add (.cells .rw (Z.map iv))):=(by repeat(first|assumption|exact H.Sub.refl (by assumption)|refine H.Sub.add ?_ _|refine H.Sub.set ?_ (by first|omega|(simp only[H.next_add,H.next_set,H.next_del]<;>omega)) (by first|omega|(simp only[H.next_add,H.next_set,H.next_del]<;>omega)) (by assumption) _))
 refine W_loop (fun k s=>∃tm h' K,s=⟨tm,h',[]⟩∧h.Sub h'∧h.next+2≤h'.next∧h'.get h.next=some (.cells .rw (K.map iv))∧h'.get (h.next+1)=some (.cells .rw (Z.map iv))∧(Opd.t 1).ev tm=.ptr h.next 0∧(Opd.t 2).ev tm=.ptr (h.next+1) 0∧Run5 240 K∧left5 240 K<k∧clos K=clos L)
  ?_ (left5 240 L+1) _ ⟨_,_,L,rfl,s2,by simp only[H.next_add];omega,by simp -implicitDefEqProofs(maxSteps:=999999)(disch:=first|with_reducible rfl|omega|(simp only[nA,nS,nD]<;>omega)|fail)only[go_sem],by simp -implicitDefEqProofs(maxSteps:=999999)(disch:=first|with_reducible rfl|omega|(simp only[nA,nS,nD]<;>omega)|fail)only[go_sem],(by simp[ev_c,ev_put]<;>rfl),(by simp[ev_c,ev_put]<;>rfl),hL.run (by decide),by omega,rfl⟩
 rintro k s ⟨tm,h1,K,rfl,s1,n1,g1,g2,e1,e2,r1,lf,hcl⟩
 have lK:=r1.len
 have hw1:=s1.wf
 have gK:getN 0 25 (K.map iv)=some (K.map iv):=by rw[←lK];exact getN_iv K
 have lnK:lenN (K.map iv)=25:=by rw[lenN_iv,lK]
 have hB:h.next+1<h1.next:=by omega
 have pB:(h1.add (.cells .rw (Z.map iv))).put h1.next 0 (K.map iv)=some ((h1.add (.cells .rw (Z.map iv))).set h1.next (.cells .rw (K.map iv))):=put_ints (L:=Z) (get_add_new rfl) (by omega) (fun e=>by rw[e] at lK;cases lK)
 simp -implicitDefEqProofs(maxSteps:=999999)(disch:=first|with_reducible rfl|omega|(simp only[nA,nS,nD]<;>omega)|fail)only[go_sem,e1,e2,cells_of g1,gK,lnK,pB]
 have sB:h1.Sub (h1.add (.cells .rw (K.map iv))):=(H.Sub.refl hw1).add _
 refine W_count 5 (fun m s=>∃tm h',s=⟨tm,h',[]⟩∧CI h h1.next K Z (25*m) tm h'∧(Opd.t 10).ev tm=.int .i64 (m:Int)) ?_ ?_ (i:=0) (Nat.zero_le _)
  ⟨_,_,rfl,⟨s1.trans sB,by rw[H.next_add];omega,by rw[run5];exact sB.get g1,sB.get g2,get_add_new rfl,(by simp[ev_c,ev_put,e1]<;>rfl),(by simp[ev_c,ev_put,e2]<;>rfl),(by simp[ev_c,ev_put]<;>rfl)⟩,(by simp[ev_c,ev_put]<;>rfl)⟩
 ·rintro m s hm ⟨tm,h',rfl,c,e10⟩
  have hm':(m:Int)<5:=by omega
  simp -implicitDefEqProofs(maxSteps:=999999)(disch:=first|with_reducible rfl|omega|(simp only[nA,nS,nD]<;>omega)|fail)only[go_sem,e10,hm']
  refine W_count 5 (fun a s=>∃tm h',s=⟨tm,h',[]⟩∧CI h h1.next K Z (25*m+5*a) tm h'∧(Opd.t 10).ev tm=.int .i64 (m:Int)∧(Opd.t 5).ev tm=.int .i64 (m:Int)∧(Opd.t 13).ev tm=.int .i64 (a:Int)) ?_ ?_ (i:=0) (Nat.zero_le _)
   ⟨_,_,rfl,⟨c.sub,c.nx,c.gf,c.gr,c.gb,(by simp[ev_c,ev_put,c.e1]<;>rfl),(by simp[ev_c,ev_put,c.e2]<;>rfl),(by simp[ev_c,ev_put,c.e4]<;>rfl)⟩,(by simp[ev_c,ev_put,e10]<;>rfl),(by simp[ev_c,ev_put]<;>rfl),(by simp[ev_c,ev_put]<;>rfl)⟩
  ·rintro a s ha ⟨tm,h',rfl,c,e10,e5,e13⟩
   have ha':(a:Int)<5:=by omega
   simp -implicitDefEqProofs(maxSteps:=999999)(disch:=first|with_reducible rfl|omega|(simp only[nA,nS,nD]<;>omega)|fail)only[go_sem,e10,e5,e13,ha']
   refine W_count 5 (fun b s=>∃tm h',s=⟨tm,h',[]⟩∧CI h h1.next K Z (25*m+5*a+b) tm h'∧(Opd.t 10).ev tm=.int .i64 (m:Int)∧(Opd.t 5).ev tm=.int .i64 (m:Int)∧(Opd.t 13).ev tm=.int .i64 (a:Int)∧(Opd.t 6).ev tm=.int .i64 (a:Int)∧(Opd.t 16).ev tm=.int .i64 (b:Int)) ?_ ?_ (i:=0) (Nat.zero_le _)
    ⟨_,_,rfl,⟨c.sub,c.nx,c.gf,c.gr,c.gb,(by simp[ev_c,ev_put,c.e1]<;>rfl),(by simp[ev_c,ev_put,c.e2]<;>rfl),(by simp[ev_c,ev_put,c.e4]<;>rfl)⟩,(by simp[ev_c,ev_put,e10]<;>rfl),(by simp[ev_c,ev_put,e5]<;>rfl),(by simp[ev_c,ev_put,e13]<;>rfl),(by simp[ev_c,ev_put]<;>rfl),(by simp[ev_c,ev_put]<;>rfl)⟩
   ·rintro b s hb ⟨tm,h',rfl,c,e10,e5,e13,e6,e16⟩
    have hb':(b:Int)<5:=by omega
    obtain⟨J,hJ⟩:∃J,run5 (25*m+5*a+b) K=J:=⟨_,rfl⟩
    have lJ:J.length=25:=by rw[←hJ,run5_len];exact lK
    have hadd:=r1.add (k:=25*m+5*a+b) (by omega)
    have gf:=c.gf
    rw[show(25*m+5*a+b)/25=m by omega,show(25*m+5*a+b)/5%5=a by omega,show(25*m+5*a+b)%5=b by omega,hJ] at hadd
    rw[hJ] at gf
    have hw':=c.sub.wf
    have nx:=c.nx
    simp -implicitDefEqProofs(maxSteps:=999999)(disch:=first|with_reducible rfl|omega|(simp only[nA,nS,nD]<;>omega)|fail)only[go_sem,e10,e5,e13,e6,e16,c.e1,hb',iaa5,cells_of gf,gf,nth_mg lJ ha hb,nth_mg lJ ha hm,nth_mg lJ hm hb,wr_in hadd.1 hadd.2]
    have hx:SlAt (h'.add (.cells .rw [.int .i64 (mg J a m+mg J m b)])) (.sl h'.next 0 1 (.fix 1)) 1 ([mg J a m+mg J m b].map fun n=>[iv n]):=SlAt.new _ rfl rfl rfl (by simp) (by simp)
    refine least_ev f1 (h:=h'.add (.cells .rw [.int .i64 (mg J a m+mg J m b)])) (H.wf_add hw' _) hx _ _ fun h2 s2=>?_
    have s12:h'.Sub h2:=((H.Sub.refl hw').add _).trans s2
    have gf2:=s12.get gf
    have hp:=putN_iv (L:=J) (k:=a*5+b*1) (by omega) (min (mg J a b) (mg J a m+mg J m b))
    have hx2:=s12.next
    simp -implicitDefEqProofs(maxSteps:=999999)(disch:=first|with_reducible rfl|omega|(simp only[nA,nS,nD]<;>omega)|fail)only[go_sem,List.foldl_cons,List.foldl_nil,iaa5,e10,e5,e13,e6,e16,c.e1,cells_of gf2,gf2,cells_of gf,gf,nth_mg lJ ha hb,nth_mg lJ ha hm,nth_mg lJ hm hb,hp,wr_succ]
    have hr:J.set (a*5+b*1) (min (mg J a b) (mg J a m+mg J m b))=run5 (25*m+5*a+(b+1)) K:=by
     rw[←Nat.add_assoc,run5_at ha hb,hJ,show a*5+b*1=5*a+b by omega];rfl
    rw[hr]
    exact⟨_,_,rfl,⟨(c.sub.trans s12).set (by omega) (by omega) hw _,by rw[H.next_set];omega,get_set_same rfl,by rw[get_set_other (by omega)];exact s12.get c.gr,by rw[get_set_other (by omega)];exact s12.get c.gb,(by simp[ev_c,ev_put,c.e1]<;>rfl),(by simp[ev_c,ev_put,c.e2]<;>rfl),(by simp[ev_c,ev_put,c.e4]<;>rfl)⟩,(by simp[ev_c,ev_put,e10]<;>rfl),(by simp[ev_c,ev_put,e5]<;>rfl),(by simp[ev_c,ev_put,e13]<;>rfl),(by simp[ev_c,ev_put,e6]<;>rfl),(by simp[ev_c,ev_put]<;>rfl)⟩
   ·rintro s ⟨tm,h',rfl,c,e10,e5,e13,e6,e16⟩
    simp -implicitDefEqProofs(maxSteps:=999999)(disch:=first|with_reducible rfl|omega|(simp only[nA,nS,nD]<;>omega)|fail)only[go_sem,e10,e5,e13,e6,e16,h55,wr_succ]
    exact⟨_,_,rfl,⟨c.sub,c.nx,by rw[Nat.mul_add,←Nat.add_assoc];exact c.gf,c.gr,c.gb,(by simp[ev_c,ev_put,c.e1]<;>rfl),(by simp[ev_c,ev_put,c.e2]<;>rfl),(by simp[ev_c,ev_put,c.e4]<;>rfl)⟩,(by simp[ev_c,ev_put,e10]<;>rfl),(by simp[ev_c,ev_put,e5]<;>rfl),(by simp[ev_c,ev_put]<;>rfl)⟩
  ·rintro s ⟨tm,h',rfl,c,e10,e5,e13⟩
   simp -implicitDefEqProofs(maxSteps:=999999)(disch:=first|with_reducible rfl|omega|(simp only[nA,nS,nD]<;>omega)|fail)only[go_sem,e10,e5,e13,h55,wr_succ]
   exact⟨_,_,rfl,⟨c.sub,c.nx,by rw[Nat.mul_add];exact c.gf,c.gr,c.gb,(by simp[ev_c,ev_put,c.e1]<;>rfl),(by simp[ev_c,ev_put,c.e2]<;>rfl),(by simp[ev_c,ev_put,c.e4]<;>rfl)⟩,(by simp[ev_c,ev_put]<;>rfl)⟩
 ·rintro s ⟨tm,h',rfl,c,e10⟩
  have c:CI h h1.next K Z 125 tm h':=c
  obtain⟨J,hJ⟩:∃J,run5 125 K=J:=⟨_,rfl⟩
  have lJ:J.length=25:=by rw[←hJ,run5_len];exact lK
  have gf:=c.gf
  rw[hJ] at gf
  have hw':=c.sub.wf
  have hnx:=c.nx
  have hlr:h.next<h'.next:=by omega
  have gJ:getN 0 25 (J.map iv)=some (J.map iv):=by rw[←lJ];exact getN_iv J
  have lnJ:lenN (J.map iv)=25:=by rw[lenN_iv,lJ]
  have pJ:h'.put (h.next+1) 0 (J.map iv)=some (h'.set (h.next+1) (.cells .rw (J.map iv))):=put_ints (L:=Z) c.gr (by omega) (fun e=>by rw[e] at lJ;cases lJ)
  have sR:h.Sub (h'.set (h.next+1) (.cells .rw (J.map iv))):=c.sub.set (by omega) (by omega) hw _
  have res:(h'.set (h.next+1) (.cells .rw (J.map iv))).cells (h.next+1)=some (J.map iv):=cells_set_same rfl
  have hge:left5 240 K<k:=lf
  simp -implicitDefEqProofs(maxSteps:=999999)(disch:=first|with_reducible rfl|omega|(simp only[nA,nS,nD]<;>omega)|fail)only[go_sem,e10,h55]
  refine W_count 5 (fun a s=>∃tm,s=⟨tm,h',[]⟩∧(Opd.t 1).ev tm=.ptr h.next 0∧(Opd.t 2).ev tm=.ptr (h.next+1) 0∧(Opd.t 4).ev tm=.ptr h1.next 0∧(∀d,d<a→¬mg J d d<0)∧(Opd.t 44).ev tm=.int .i64 (a:Int)) ?_ ?_ (i:=0) (Nat.zero_le _)
   ⟨_,rfl,(by simp[ev_c,ev_put,c.e1]<;>rfl),(by simp[ev_c,ev_put,c.e2]<;>rfl),(by simp[ev_c,ev_put,c.e4]<;>rfl),fun d hd=>absurd hd (Nat.not_lt_zero _),(by simp[ev_c,ev_put]<;>rfl)⟩
  ·rintro a s ha ⟨tm,rfl,e1,e2,e4,hd,e44⟩
   have ha':(a:Int)<5:=by omega
   by_cases hneg:mg J a a<0
   ·have hcl2:clos K=(J,false):=by
     rw[←clos_eq (by decide) (by decide) r1 (n:=left5 240 K+1) (by omega)]
     simp only[clo,hJ,neg5_iff.2 ⟨a,ha,hneg⟩,if_true]
    have q':=q _ sR
    rw[←hcl,hcl2] at q'
    simp -implicitDefEqProofs(maxSteps:=999999)(disch:=first|with_reducible rfl|omega|(simp only[nA,nS,nD]<;>omega)|fail)only[go_sem,e1,e2,e44,ha',iaa5,cells_of gf,nth_mg lJ ha ha,hneg,gJ,lnJ,pJ,res]
    exact q'
   ·simp -implicitDefEqProofs(maxSteps:=999999)(disch:=first|with_reducible rfl|omega|(simp only[nA,nS,nD]<;>omega)|fail)only[go_sem,e1,e2,e44,ha',iaa5,cells_of gf,nth_mg lJ ha ha,hneg,wr_succ]
    have hd':∀d,d<a+1→¬mg J d d<0:=fun d h5=>by
     rcases Nat.lt_or_ge d a with h6|h6
     ·exact hd d h6
     ·have:d=a:=by omega
      subst this;exact hneg
    exact⟨_,rfl,(by simp[ev_c,ev_put,e1]<;>rfl),(by simp[ev_c,ev_put,e2]<;>rfl),(by simp[ev_c,ev_put,e4]<;>rfl),hd',(by simp[ev_c,ev_put]<;>rfl)⟩
  ·rintro s ⟨tm,rfl,e1,e2,e4,hd,e44⟩
   have hn5:neg5 J=false:=by
    cases hn:neg5 J with
    |false=>rfl
    |true=>obtain⟨a,ha,h2⟩:=neg5_iff.1 hn;exact absurd h2 (hd a ha)
   have hq:=q_feq_map (n:=25) J K lJ lK false
   by_cases hJK:J=K
   ·have hcl2:clos K=(J,true):=by
     rw[←clos_eq (by decide) (by decide) r1 (n:=left5 240 K+1) (by omega)]
     simp only[clo,hJ,hn5,Bool.false_eq_true,if_false,if_pos hJK]
    have q':=q _ sR
    rw[←hcl,hcl2] at q'
    have hd1:ngB false (decide (J=K))=true:=by simp[hJK,ngB]
    simp -implicitDefEqProofs(maxSteps:=999999)(disch:=first|with_reducible rfl|omega|(simp only[nA,nS,nD]<;>omega)|fail)only[go_sem,e1,e2,e4,e44,h55,cells_of gf,cells_of c.gb,gJ,gK,hq,hd1,lnJ,pJ,res]
    exact q'
   ·have hd1:ngB false (decide (J=K))=false:=by simp[hJK,ngB]
    simp -implicitDefEqProofs(maxSteps:=999999)(disch:=first|with_reducible rfl|omega|(simp only[nA,nS,nD]<;>omega)|fail)only[go_sem,e1,e2,e4,e44,h55,cells_of gf,cells_of c.gb,gJ,gK,hq,hd1]
    have hlt:=r1.left (by decide) (by rw[hJ];exact hn5) (by rw[hJ];exact hJK)
    have hnx2:=(r1.next (by decide) (by rw[hJ];exact hn5) (by rw[hJ];exact hJK)).1
    rw[hJ] at hlt hnx2
    refine⟨left5 240 K,lf,_,_,J,rfl,c.sub,by omega,gf,c.gr,(by simp[ev_c,ev_put,e1]<;>rfl),(by simp[ev_c,ev_put,e2]<;>rfl),hnx2,hlt,?_⟩
    rw[←hcl,←clos_eq (by decide) (by decide) r1 (n:=left5 240 K+1) (by omega),←clos_eq (by decide) (by decide) hnx2 (n:=left5 240 K) hlt]
    simp only[clo,hJ,hn5,Bool.false_eq_true,if_false,if_neg hJK]
end Go.Ab.Tryz
namespace Go.Ab
theorem mul_bd {m g:Int}(h0:0≤m)(h1:m≤240)(h2: -30≤g)(h3:g≤30): -7200≤m*g∧m*g≤7200:=by
 have a:=Int.mul_le_mul_of_nonneg_left h3 h0
 have b:=Int.mul_le_mul_of_nonneg_left h2 h0
 omega
structure RunIn (set gain:Int):Prop where
 s0: -60≤set
 s1:set≤60
 g0: -30≤gain
 g1:gain≤30
end Go.Ab
namespace Go.Ab.Tryz
open Go.Proofs
variable {fast:Nat→Option (List V→H→Option (V × H))}
theorem shows_ev (f1:fast 117=none){h:H}(hw:h.wf){set gain m:Int}(r:RunIn set gain)(h0:0≤m)(h1:m≤240)(Q:V→H→Prop)(q:∀h',h.Sub h'→Q (.int .i64 (shw set gain m)) h'):
  Ev fnG fast (.fn 117 [] []) [.agg [.int .i64 set,.int .i64 gain],.int .i64 m] h Q:=by
 have hb:=mul_bd h0 h1 r.g0 r.g1
 have s0:=r.s0;have s1:=r.s1
 have w1:wr .i64 (m*gain)=m*gain:=wr_in (by omega) (by omega)
 have w2:wr .i64 (set+m)=set+m:=wr_in (by omega) (by omega)
 have e:=shw_go (m*gain)
 have hq:=fun n=>q_ar_quo .i64 (a:=n) (b:=60) (by decide)
 have s:h.Sub (h.add (.cells .rw [.int .i64 set,.int .i64 gain])):=(by repeat(first|assumption|exact H.Sub.refl (by assumption)|refine H.Sub.add ?_ _|refine H.Sub.set ?_ (by first|omega|(simp only[H.next_add,H.next_set,H.next_del]<;>omega)) (by first|omega|(simp only[H.next_add,H.next_set,H.next_del]<;>omega)) (by assumption) _))
 refine Ev_body (fd:=c117) f1 rfl rfl ?_
 by_cases hn:m*gain<0
 ·rw[if_pos hn] at e
  have w3:wr .i64 (m*gain-59)=m*gain-59:=wr_in (by omega) (by omega)
  have w4:wr .i64 (m*gain/60)=m*gain/60:=wr_in (by omega) (by omega)
  have w5:wr .i64 (set+m+m*gain/60)=set+m+m*gain/60:=wr_in (by omega) (by omega)
  simp -implicitDefEqProofs(maxSteps:=999999)(disch:=first|with_reducible rfl|omega|(simp only[nA,nS,nD]<;>omega)|fail)only[c117,go_sem,w1,w2,w3,hn,hq,e,w4,w5]
  exact q _ s
 ·rw[if_neg hn] at e
  have w4:wr .i64 (m*gain/60)=m*gain/60:=wr_in (by omega) (by omega)
  have w5:wr .i64 (set+m+m*gain/60)=set+m+m*gain/60:=wr_in (by omega) (by omega)
  simp -implicitDefEqProofs(maxSteps:=999999)(disch:=first|with_reducible rfl|omega|(simp only[nA,nS,nD]<;>omega)|fail)only[c117,go_sem,w1,w2,hn,hq,e,w4,w5]
  exact q _ s
set_option maxHeartbeats 1000000 in
theorem when_ev (f1:fast 117=none)(f2:fast 99=none){h:H}(hw:h.wf){set gain:Int}(r:RunIn set gain)(s:Int){n:Nat}(hn:n≤240)(Q:V→H→Prop)
  (q:∀h',h.Sub h'→Q (.agg [.int .i64 (whn set gain s (n+1)).1,.int .i64 (whn set gain s (n+1)).2]) h'):
  Ev fnG fast (.fn 99 [] []) [.agg [.int .i64 set,.int .i64 gain],.int .i64 s,.int .i64 (n:Int)] h Q:=by
 refine Ev_body (fd:=c99) f2 rfl rfl ?_
 simp -implicitDefEqProofs(maxSteps:=999999)(disch:=first|with_reducible rfl|omega|(simp only[nA,nS,nD]<;>omega)|fail)only[c99,go_sem,wr_succ]
 refine W_count (n+1) (fun m st=>∃tm h',st=⟨tm,h',[]⟩∧h.Sub h'∧h.next+2<h'.next∧h'.get h.next=some (.cells .rw [.int .i64 set,.int .i64 gain])∧h'.get (h.next+1)=some (.cells .rw [.int .i64 0,.int .i64 0])∧h'.get (h.next+2)=some (.cells .rw [.int .i64 (whn set gain s m).1,.int .i64 (whn set gain s m).2])∧
   (Opd.t 1).ev tm=.int .i64 s∧(Opd.t 3).ev tm=.ptr h.next 0∧(Opd.t 6).ev tm=.ptr (h.next+1) 0∧(Opd.t 7).ev tm=.ptr (h.next+2) 0∧(Opd.t 11).ev tm=.int .i64 ((n+1:Nat):Int)∧(Opd.t 12).ev tm=.int .i64 (m:Int))
  ?_ ?_ (i:=0) (Nat.zero_le _) ⟨_,_,rfl,?_,by simp only[H.next_add];omega,by simp -implicitDefEqProofs(maxSteps:=999999)(disch:=first|with_reducible rfl|omega|(simp only[nA,nS,nD]<;>omega)|fail)only[go_sem],by simp -implicitDefEqProofs(maxSteps:=999999)(disch:=first|with_reducible rfl|omega|(simp only[nA,nS,nD]<;>omega)|fail)only[go_sem],by simp -implicitDefEqProofs(maxSteps:=999999)(disch:=first|with_reducible rfl|omega|(simp only[nA,nS,nD]<;>omega)|fail)only[go_sem,whn],(by simp[ev_c,ev_put]<;>rfl),(by simp[ev_c,ev_put]<;>rfl),(by simp[ev_c,ev_put]<;>rfl),(by simp[ev_c,ev_put]<;>rfl),(by simp[ev_c,ev_put]<;>rfl),(by simp[ev_c,ev_put]<;>rfl)⟩
 ·rintro m st hm ⟨tm,h',rfl,hs,hx,ga,gb,gc,e1,e3,e6,e7,e11,e12⟩
  have hm':(m:Int)<((n+1:Nat):Int):=by omega
  simp -implicitDefEqProofs(maxSteps:=999999)(disch:=first|with_reducible rfl|omega|(simp only[nA,nS,nD]<;>omega)|fail)only[go_sem,e1,e3,e6,e7,e11,e12,hm',cells_of ga]
  refine shows_ev f1 hs.wf r (by omega) (by omega) _ fun h2 s2=>?_
  have hx2:=s2.next
  by_cases h1:shw set gain m=s
  ·have ew:whn set gain s (m+1)=if(whn set gain s m).2<(whn set gain s m).1 then((m:Int),(m:Int)) else((whn set gain s m).1,(m:Int)):=by rw[whn,if_pos h1]
   by_cases h3:(whn set gain s m).2<(whn set gain s m).1
   ·rw[if_pos h3] at ew
    simp -implicitDefEqProofs(maxSteps:=999999)(disch:=first|with_reducible rfl|omega|(simp only[nA,nS,nD]<;>omega)|fail)only[go_sem,e1,e3,e6,e7,e11,e12,h1,ne_eq,not_true_eq_false,cells_of (s2.get gc),s2.get gc,h3,wr_succ]
    refine⟨_,_,rfl,(hs.trans s2).set (by omega) (by omega) hw _,by rw[H.next_set];omega,by rw[get_set_other (by omega)];exact s2.get ga,by rw[get_set_other (by omega)];exact s2.get gb,by rw[get_set_same rfl,ew],(by simp[ev_c,ev_put,e1]<;>rfl),(by simp[ev_c,ev_put,e3]<;>rfl),(by simp[ev_c,ev_put,e6]<;>rfl),(by simp[ev_c,ev_put,e7]<;>rfl),(by simp[ev_c,ev_put,e11]<;>rfl),(by simp[ev_c,ev_put]<;>rfl)⟩
   ·rw[if_neg h3] at ew
    simp -implicitDefEqProofs(maxSteps:=999999)(disch:=first|with_reducible rfl|omega|(simp only[nA,nS,nD]<;>omega)|fail)only[go_sem,e1,e3,e6,e7,e11,e12,h1,ne_eq,not_true_eq_false,cells_of (s2.get gc),s2.get gc,h3,wr_succ]
    refine⟨_,_,rfl,(hs.trans s2).set (by omega) (by omega) hw _,by rw[H.next_set];omega,by rw[get_set_other (by omega)];exact s2.get ga,by rw[get_set_other (by omega)];exact s2.get gb,by rw[get_set_same rfl,ew],(by simp[ev_c,ev_put,e1]<;>rfl),(by simp[ev_c,ev_put,e3]<;>rfl),(by simp[ev_c,ev_put,e6]<;>rfl),(by simp[ev_c,ev_put,e7]<;>rfl),(by simp[ev_c,ev_put,e11]<;>rfl),(by simp[ev_c,ev_put]<;>rfl)⟩
  ·have ew:whn set gain s (m+1)=whn set gain s m:=by rw[whn,if_neg h1]
   simp -implicitDefEqProofs(maxSteps:=999999)(disch:=first|with_reducible rfl|omega|(simp only[nA,nS,nD]<;>omega)|fail)only[go_sem,e1,e3,e6,e7,e11,e12,h1,ne_eq,not_false_eq_true,wr_succ]
   exact⟨_,_,rfl,hs.trans s2,by omega,s2.get ga,s2.get gb,by rw[ew];exact s2.get gc,(by simp[ev_c,ev_put,e1]<;>rfl),(by simp[ev_c,ev_put,e3]<;>rfl),(by simp[ev_c,ev_put,e6]<;>rfl),(by simp[ev_c,ev_put,e7]<;>rfl),(by simp[ev_c,ev_put,e11]<;>rfl),(by simp[ev_c,ev_put]<;>rfl)⟩
 ·rintro st ⟨tm,h',rfl,hs,hx,ga,gb,gc,e1,e3,e6,e7,e11,e12⟩
  have sR:h.Sub (h'.set (h.next+1) (.cells .rw [.int .i64 (whn set gain s (n+1)).1,.int .i64 (whn set gain s (n+1)).2])):=hs.set (by omega) (by omega) hw _
  simp -implicitDefEqProofs(maxSteps:=999999)(disch:=first|with_reducible rfl|omega|(simp only[nA,nS,nD]<;>omega)|fail)only[go_sem,e1,e3,e6,e7,e11,e12,Int.lt_irrefl,cells_of gc,gb]
  exact q _ sR
 ·exact(by repeat(first|assumption|exact H.Sub.refl (by assumption)|refine H.Sub.add ?_ _|refine H.Sub.set ?_ (by first|omega|(simp only[H.next_add,H.next_set,H.next_del]<;>omega)) (by first|omega|(simp only[H.next_add,H.next_set,H.next_del]<;>omega)) (by assumption) _))
end Go.Ab.Tryz
namespace Go.Ab
def steps125:List (Nat × Nat × Nat):=[(0,0,0),(1,0,1),(2,0,2),(3,0,3),(4,0,4),(5,5,0),(6,5,1),(7,5,2),(8,5,3),(9,5,4),(10,10,0),(11,10,1),(12,10,2),(13,10,3),(14,10,4),(15,15,0),(16,15,1),(17,15,2),(18,15,3),(19,15,4),(20,20,0),(21,20,1),(22,20,2),(23,20,3),(24,20,4),(0,1,5),(1,1,6),(2,1,7),(3,1,8),(4,1,9),(5,6,5),(6,6,6),(7,6,7),(8,6,8),(9,6,9),(10,11,5),(11,11,6),(12,11,7),(13,11,8),(14,11,9),(15,16,5),(16,16,6),(17,16,7),(18,16,8),(19,16,9),(20,21,5),(21,21,6),(22,21,7),(23,21,8),(24,21,9),(0,2,10),(1,2,11),(2,2,12),(3,2,13),(4,2,14),(5,7,10),(6,7,11),(7,7,12),(8,7,13),(9,7,14),(10,12,10),(11,12,11),(12,12,12),(13,12,13),(14,12,14),(15,17,10),(16,17,11),(17,17,12),(18,17,13),(19,17,14),(20,22,10),(21,22,11),(22,22,12),(23,22,13),(24,22,14),(0,3,15),(1,3,16),(2,3,17),(3,3,18),(4,3,19),(5,8,15),(6,8,16),(7,8,17),(8,8,18),(9,8,19),(10,13,15),(11,13,16),(12,13,17),(13,13,18),(14,13,19),(15,18,15),(16,18,16),(17,18,17),(18,18,18),(19,18,19),(20,23,15),(21,23,16),(22,23,17),(23,23,18),(24,23,19),(0,4,20),(1,4,21),(2,4,22),(3,4,23),(4,4,24),(5,9,20),(6,9,21),(7,9,22),(8,9,23),(9,9,24),(10,14,20),(11,14,21),(12,14,22),(13,14,23),(14,14,24),(15,19,20),(16,19,21),(17,19,22),(18,19,23),(19,19,24),(20,24,20),(21,24,21),(22,24,22),(23,24,23),(24,24,24)]
def okI (lo hi:Int)(n:Int):Bool:=match ilt n lo with|true=>false|false=> !ilt hi n
theorem okI_eq {lo hi n:Int}:okI lo hi n=true↔lo≤n∧n≤hi:=by
 unfold okI;rw[ilt_eq,ilt_eq]
 by_cases h:n<lo
 ·simp[h];omega
 ·simp[h];omega
def getIs:List V→Option (List Int)
 |[]=>some []
 |v::l=>match v with
  |.int k n=>(match keq k .i64 with
   |true=>(match okI (-240) 240 n with
    |true=>(match getIs l with|some r=>some (n::r)|none=>none)
    |false=>none)
   |false=>none)
  |_=>none
theorem getIs_eq:∀{l:List V} {r:List Int},getIs l=some r→l=r.map (V.int .i64)∧∀n∈r, -240≤n∧n≤240
 |[],r,h=>by simp only[getIs,Option.some.injEq] at h;subst h;exact⟨rfl,by simp⟩
 |v::l,r,h=>by
  simp only[getIs] at h
  split at h
  ·split at h
   ·rename_i k n hk
    split at h
    ·rename_i hn
     split at h
     ·rename_i r' hr
      cases h
      obtain⟨h1,h2⟩:=getIs_eq hr
      refine⟨by rw[keq_eq.1 hk,h1];rfl,fun m hm=>?_⟩
      simp only[List.mem_cons] at hm
      rcases hm with rfl|hm
      ·exact okI_eq.1 hn
      ·exact h2 m hm
     ·cases h
    ·cases h
   ·cases h
  ·cases h
def mapIv {β:Type}:List Int→(List V→β)→β
 |[],f=>f []
 |n::l,f=>zf n fun n=>mapIv l fun r=>f (.int .i64 n::r)
theorem mapIv_eq {β:Type}:∀(l:List Int) (f:List V→β),mapIv l f=f (l.map (V.int .i64))
 |[],f=>rfl
 |n::l,f=>by simp[mapIv,zf_eq,mapIv_eq l]
def closedF (args:List V)(h:H):Option (V × H):=match args with
 |[.agg cs]=>(match Nat.beq (lenN cs) 25 with
  |true=>(match getIs cs with
   |some L=>(match cloK steps125 12002 L with
    |(K,b)=>mapIv K fun K=>(match b with
     |true=>some (.tup [.agg K,.bool true],h)
     |false=>some (.tup [.agg K,.bool false],h)))
   |none=>none)
  |false=>none)
 |_=>none
def whenF (args:List V)(h:H):Option (V × H):=match args with
 |[.agg [.int .i64 set,.int .i64 gain],.int .i64 s,.int .i64 (.ofNat n)]=>(match okI (-60) 60 set with
  |true=>(match okI (-30) 30 gain with
   |true=>(match Nat.ble n 240 with
    |true=>(match whnK (fun m=>ieq (set+ .ofNat m+ .ofNat m*gain/60) s) (n+1) 0 (1,0) with
     |(lo,hi)=>zf lo fun lo=>zf hi fun hi=>some (.agg [.int .i64 lo,.int .i64 hi],h))
    |false=>none)
   |false=>none)
  |false=>none)
 |_=>none
end Go.Ab
namespace Go.Ab
theorem plain_spec {P:Program}{Ty:Nat→Option TD}{f:FuncId}{args:List V}{h':H}{v:V}(hs:SpecOk P Ty f args ⟨0,.nil⟩ v h')(ha0:scL (fun _=>False) args)(hv:v.sc fun _=>False)(h:H):SpecOk P Ty f args h v h:=by
 refine⟨H.le_refl _,fun{F n φ p w} hF hfr hR ha hwf=>?_⟩
 have hg:∀b x,(H.get ⟨0,.nil⟩ b)=some x→False:=fun b x hb=>by
  have:(T.nil:T Blk).get b=some x:=hb
  rw[T.get_nil] at this;cases this
 have h0:Rep Ty φ (H.get ⟨0,.nil⟩) (fun _=>False) w:=⟨fun b x hb=>(hg b x hb).elim,fun b c x y hb=>(hg b x hb).elim,fun b x hb=>(hg b x hb).elim⟩
 refine CallsIn.mono (hs.2 hF (fun b _ _ h=>h) h0 ha0 (fun b x hb=>(hg b x hb).elim)) fun e w' he=>?_
 obtain⟨φ',rfl,⟨r1,r2⟩,r3⟩:=he
 have hkept:∀B,B<w.heap.size→w'.heap[B]? =w.heap[B]? :=fun B hB=>r2.kept B hB fun b x hb=>(hg b x hb).elim
 refine⟨φ,by rw[conc_closed hv φ' φ],?_,V.sc_mono (fun _ h=>h.elim) _ hv⟩
 unfold Done
 rw[grow_self]
 refine⟨⟨fun b x hb=>?_,hR.inj,hR.sc⟩,⟨φ.agree_refl p,fun _ h=>h,r2.size,fun B hB _=>hkept B hB,fun b x hb=>.inr ⟨b,x,hb,.refl,rfl⟩,r2.env⟩⟩
 obtain⟨o,ho,hi⟩:=hR.blk b x hb
 exact⟨o,by rw[hkept _ (hR.lt hb),ho],hi⟩
theorem steps_eq:steps125=stepsK 125:=by kernel_rfl
theorem sc_ints (l:List Int):scL (fun _=>False) (l.map (V.int .i64)):=scL_iff.2 fun v hv=>by obtain⟨n,_,rfl⟩:=List.mem_map.1 hv;trivial
theorem in5_of {L:List Int}(hl:L.length=25)(h:∀n∈L, -240≤n∧n≤240):In5 240 L:=by
 have:∀a b,a<5→b<5→mg L a b∈L:=fun a b ha hb=>by
  unfold mg
  rw[List.getD_eq_getElem?_getD,List.getElem?_eq_getElem (by omega)]
  exact List.getElem_mem (by omega)
 exact⟨hl,fun a b ha hb=>(h _ (this a b ha hb)).2,fun a b ha hb=>(h _ (this a b ha hb)).1⟩
end Go.Ab
namespace Go.Ab.Tryz
open Go.Proofs
theorem callable0 {f:FuncId}{fd:FD}(h:fnG f=some fd):Callable Tryz.prog f:=callable_of fnOK h
def noF (f:Nat):Option (List V→H→Option (V × H)):=none
theorem noF_ok:FastOk Tryz.prog tyG noF:=⟨fun f g h=>by cases h⟩
theorem closedF_ok {args:List V}{h h':H}{v:V}(hs:closedF args h=some (v,h')):SpecOk Tryz.prog tyG 107 args h v h':=by
 unfold closedF at hs
 split at hs
 ·rename_i cs
  split at hs
  ·rename_i hl
   split at hs
   ·rename_i L hL
    obtain⟨rfl,hb⟩:=getIs_eq hL
    have hl:=Nat.eq_of_beq_eq_true hl
    rw[lenN_eq,List.length_map] at hl
    have e:cloK steps125 12002 L=clos L:=by rw[steps_eq,cloK_eq];rfl
    rw[e,show clos L=((clos L).1,(clos L).2) from rfl] at hs
    simp only[mapIv_eq] at hs
    have hw:H.wf ⟨0,.nil⟩:=fun b x hb=>by
     have:(T.nil:T Blk).get b=some x:=hb
     rw[T.get_nil] at this;cases this
    obtain⟨v',h1,hsp,hq⟩:=(closed_ev (fast:=noF) rfl rfl hw (in5_of hl hb) (fun v' _=>v'=.tup [.agg ((clos L).1.map iv),.bool (clos L).2]) fun _ _=>rfl).spec tyOK depth_ok mixed_ok fnOK noF_ok (callable0 (fd:=c107) rfl)
    subst hq
    have hsp2:=plain_spec hsp ⟨sc_ints L,trivial⟩ ⟨sc_ints (clos L).1,trivial,trivial⟩ h
    have:v=.tup [.agg ((clos L).1.map iv),.bool (clos L).2]∧h'=h:=by
     cases hb:(clos L).2<;>rw[hb] at hs<;>cases hs<;>exact⟨rfl,rfl⟩
    obtain⟨rfl,rfl⟩:=this
    exact hsp2
   ·cases hs
  ·cases hs
 ·cases hs
theorem whenF_ok {args:List V}{h h':H}{v:V}(hs:whenF args h=some (v,h')):SpecOk Tryz.prog tyG 99 args h v h':=by
 unfold whenF at hs
 split at hs
 ·rename_i set gain s n
  split at hs
  ·rename_i h1
   split at hs
   ·rename_i h2
    split at hs
    ·rename_i h3
     have h1:=okI_eq.1 h1
     have h2:=okI_eq.1 h2
     have h3:=Nat.le_of_ble_eq_true h3
     have e:=whnK_eq set gain s (n+1) 0
     rw[show whn set gain s 0=(1,0) from rfl,Nat.zero_add] at e
     rw[e] at hs
     simp only[zf_eq,Option.some.injEq,Prod.mk.injEq] at hs
     obtain⟨rfl,rfl⟩:=hs
     have hw:H.wf ⟨0,.nil⟩:=fun b x hb=>by
      have:(T.nil:T Blk).get b=some x:=hb
      rw[T.get_nil] at this;cases this
     obtain⟨v',h1,hsp,hq⟩:=(when_ev (fast:=noF) rfl rfl hw ⟨h1.1,h1.2,h2.1,h2.2⟩ s h3 (fun v' _=>v'=.agg [.int .i64 (whn set gain s (n+1)).1,.int .i64 (whn set gain s (n+1)).2]) fun _ _=>rfl).spec tyOK depth_ok mixed_ok fnOK noF_ok (callable0 (fd:=c99) rfl)
     subst hq
     exact plain_spec hsp ⟨⟨trivial,trivial,trivial⟩,trivial,trivial,trivial⟩ ⟨trivial,trivial,trivial⟩ h
    ·cases hs
   ·cases hs
  ·cases hs
 ·cases hs
noncomputable def fastK (f:Nat):Option (List V→H→Option (V × H)):=match Nat.beq f 107 with
 |true=>some closedF
 |false=>match Nat.beq f 99 with
  |true=>some whenF
  |false=>none
theorem fastK_ok:FastOk Tryz.prog tyG fastK:=by
 refine⟨fun f g h=>?_⟩
 unfold fastK at h
 split at h
 ·rename_i hb
  have:=Nat.eq_of_beq_eq_true hb;subst this
  cases h
  exact⟨callable0 (fd:=c107) rfl,fun args h v h' e=>closedF_ok e⟩
 ·split at h
  ·rename_i hb
   have:=Nat.eq_of_beq_eq_true hb;subst this
   cases h
   exact⟨callable0 (fd:=c99) rfl,fun args h v h' e=>whenF_ok e⟩
  ·cases h
end Go.Ab.Tryz
namespace Go.Ab.Tryz
open Go.Proofs
noncomputable def fastA (f:Nat):Option (List V→H→Option (V × H)):=match Nat.beq f 12 with
 |true=>some fun args h=>match args with
  |[]=>some (.bool true,h)
  |_=>none
 |false=>none
end Go.Ab.Tryz
namespace Go.Ab.Tryz
abbrev E (fv:V) (args:List V) (h:H) (Q:V→H→Prop):Prop:=Ev fnG fastA fv args h Q
abbrev PureA (h:H) (fv:V) (args:List V) (v:V):Prop:=Pure fnG fastA h fv args v
def encI (n:Int):List V:=[.int .i64 n]
def fidx {α:Type}(p:α→Bool):List α→Nat→Int
 |[],_=> -1
 |r::l,i=>if p r then(i:Int) else fidx p l (i+1)
theorem fidx_hit {α:Type}{p:α→Bool}{l:List α}{i:Nat}(hi:i<l.length)(h:p l[i]=true):fidx p (l.drop i) i=(i:Int):=by
 rw[List.drop_eq_getElem_cons hi];simp[fidx,h]
theorem fidx_miss {α:Type}{p:α→Bool}{l:List α}{i:Nat}(hi:i<l.length)(h:p l[i]=false):fidx p (l.drop i) i=fidx p (l.drop (i+1)) (i+1):=by
 rw[List.drop_eq_getElem_cons hi];simp[fidx,h]
theorem fidx_any {α:Type}(p:α→Bool):∀(l:List α) (i:Nat),decide (0≤fidx p l i)=l.any p
 |[],i=>by simp[fidx]
 |r::l,i=>by
  have ih:=fidx_any p l (i+1)
  simp only[fidx,List.any_cons]
  by_cases h:p r=true
  ·simp[h]
  ·simpa[h] using ih
theorem any_not {α:Type}(p:α→Bool)(l:List α):(!l.any fun a=> !p a)=l.all p:=by
 induction l with
 |nil=>rfl
 |cons a l ih=>simp only[List.any_cons,List.all_cons,←ih,Bool.not_or,Bool.not_not]
theorem indexFuncInt_ev {l:List Int}{p:Int→Bool}{h:H}{x f:V}(hw:h.wf)(hx:SlAt h x 1 (l.map encI))(hp:∀a∈l,PureA h f [.int .i64 a] (.bool (p a))):
  E (.fn 109 [] []) [x,f] h fun v h'=>v=.int .i64 (fidx p l 0)∧h.Sub h':=by
 have hb:=hx.boundE
 refine Ev_body (fd:=c109) rfl rfl rfl ?_
 simp(disch:=first|omega|simp only[nZ]<;>omega|fail)only[c109,go_sem,hx.lenE]
 refine W_count l.length (fun i s=>∃tm h',s=⟨tm,h',[]⟩∧h.Sub h'∧(Opd.t 0).ev tm=x∧(Opd.t 1).ev tm=f∧(Opd.t 7).ev tm=.int .i64 (l.length:Int)∧(Opd.t 8).ev tm=.int .i64 (i:Int)∧fidx p l 0=fidx p (l.drop i) i)
  ?_ ?_ (i:=0) (Nat.zero_le _) ⟨_,_,rfl,H.Sub.refl hw,(by simp),(by simp),(by simp),(by simp only[ev_put];rfl),rfl⟩
 ·rintro i s hi ⟨tm,h',rfl,hs,e0,e1,e7,e8,e9⟩
  have hi':(i:Int)<(l.length:Int):=by omega
  obtain⟨b,o,c,cs,rfl,hc,hq,hg,hn,hn0⟩:=(hx.mono hs).at hi
  simp(disch:=first|omega|simp only[nZ]<;>omega|fail)only[go_sem,e0,e1,e7,e8,hi',hq (nat_cst i),hc,hn0 (by omega),encI]
  refine(hp _ (List.getElem_mem hi)).use hs fun h2 hs2=>?_
  cases hpr:p l[i] with
  |true=>
   simp(disch:=first|omega|simp only[nZ]<;>omega|fail)only[go_sem,e0,e1,e7,e8]
   exact⟨by rw[e9,fidx_hit hi hpr],hs.trans hs2⟩
  |false=>
   simp(disch:=first|omega|simp only[nZ]<;>omega|fail)only[go_sem,e0,e1,e7,e8,wr_succ]
   exact⟨_,_,rfl,hs.trans hs2,(by simp[e0]),(by simp[e1]),(by simp[e7]),(by simp),by rw[e9,fidx_miss hi hpr]⟩
 ·rintro s ⟨tm,h',rfl,hs,e0,e1,e7,e8,e9⟩
  simp(disch:=first|omega|simp only[nZ]<;>omega|fail)only[go_sem,e0,e1,e7,e8,Int.lt_irrefl]
  exact⟨by rw[e9];simp[fidx],hs⟩
theorem containsFuncInt_ev {l:List Int}{p:Int→Bool}{h:H}{x f:V}(hw:h.wf)(hx:SlAt h x 1 (l.map encI))(hp:∀a∈l,PureA h f [.int .i64 a] (.bool (p a))):
  E (.fn 79 [] []) [x,f] h fun v h'=>v=.bool (l.any p)∧h.Sub h':=by
 refine Ev_body (fd:=c79) rfl rfl rfl ?_
 simp(disch:=first|omega|simp only[nZ]<;>omega|fail)only[c79,go_sem]
 refine(indexFuncInt_ev hw hx hp).mono fun v h' hv=>?_
 obtain⟨rfl,hs⟩:=hv
 simp(disch:=first|omega|simp only[nZ]<;>omega|fail)only[go_sem]
 exact⟨by rw[fidx_any],hs⟩
end Go.Ab.Tryz
namespace Go.Ab
theorem Keeps.sub {S:Nat→Prop}{h0 h h':H}(k:Keeps S h h')(s:h0.Sub h)(hw0:h0.wf)(hS:∀c,S c→h0.next≤c)(hw:h'.wf):h0.Sub h':=
 ⟨⟨Nat.le_trans s.next k.1,fun b y e=>k.2 b y (s.get e) fun hs=>by have:=hS b hs;have:=hw0 b y e;omega⟩,hw⟩
theorem Keeps.new {S:Nat→Prop}{h h':H}(hw:h.wf)(k:Keeps (fun c=>S c∨h.next≤c) h h'):Keeps S h h':=⟨k.1,fun c y e n=>k.2 c y e fun hs=>hs.elim n fun hge=>by have:=hw c y e;omega⟩
namespace Tryz
structure Sd where
 x:Int
 y:Int
 z:Int
deriving DecidableEq
structure Ey where
 s:Sd
 frm:Int
deriving DecidableEq
structure Tb where
 eyes:List Ey
 lights:List Sd
 pieces:List Sd
deriving DecidableEq
def encD (s:Sd):List V:=[.int .i64 s.x,.int .i64 s.y,.int .i64 s.z]
def inB (n lo hi:Int):Bool:=decide (lo≤n∧n≤hi)
def Sd.within (s:Sd)(m:Int):Bool:=inB s.x 0 m&&(inB s.y 0 m&&(inB s.z 0 m&&true))
def Ey.ok (e:Ey):Bool:=e.s.within 4&&inB e.frm 1 400
end Tryz
end Go.Ab
namespace Go.Ab
theorem own1_lit {h:H}{n:Int}:SlAt (h.add (.cells .rw [.int .i64 n])) (.sl h.next 0 1 (.fix 1)) 1 [[.int .i64 n]]:=SlAt.new _ rfl rfl (by simp) (by simp) (by simp)
namespace Tryz
end Tryz
end Go.Ab
namespace Go.Ab
namespace Tryz
def Sd.at (s:Sd):Nat→Int
 |0=>s.x
 |1=>s.y
 |_=>s.z
def dif (a b:Int):Int:=max (a-b) (b-a)
def term (e l a b:Sd)(i:Nat):Int:=dif (a.at i) (b.at i)*e.at i*l.at i
def part (e l a b:Sd):Nat→Int
 |0=>0
 |i+1=>part e l a b i+term e l a b i
def seesN (e l a b:Sd):Int:=part e l a b 3
end Tryz
end Go.Ab
namespace Go.Ab.Tryz
def tellsAt (t:Tb)(a b:Sd)(i k:Nat):Bool:=match t.eyes[i]?,t.lights[k]? with
 |some e,some l=>decide (e.frm≤seesN e.s l a b)
 |_,_=>false
def apartK (t:Tb)(a b:Sd):Nat→List (Int × Int)
 |0=>[]
 |n+1=>apartK t a b n++if tellsAt t a b (n/t.lights.length) (n%t.lights.length)=true then[(((n/t.lights.length:Nat):Int),((n%t.lights.length:Nat):Int))] else[]
def apartL (t:Tb)(a b:Sd):List (Int × Int):=if a=b then[] else apartK t a b (t.eyes.length*t.lights.length)
theorem rLoop {r0:LoopR}(h1:r0.st=.ready)(h2:r0.pend=none):({({r0 with st:=.busy}:LoopR) with st:=.ready,pend:=none}:LoopR)=r0:=by cases r0;simp_all
end Tryz
end Go.Ab
namespace Go.Ab.Tryz
def alike (t:Tb)(a b:Sd):Bool:=(apartL t a b).isEmpty
def matchB (t:Tb)(p r:Nat):Bool:=match t.pieces[p]?,t.pieces[r]? with
 |some a,some b=>alike t a b
 |_,_=>false
end Tryz
end Go.Ab
namespace Go.Ab.Tryz
end Go.Ab.Tryz
namespace Go.Ab.Tryz
end Go.Ab.Tryz
